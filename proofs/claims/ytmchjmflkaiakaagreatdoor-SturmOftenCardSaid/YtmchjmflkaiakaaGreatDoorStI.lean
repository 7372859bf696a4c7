/- Joined texts: StH StI. -/
import Derived.Test.YtmchjmflkaiakaaGreatDoorStG
import Derived.Test.YtmchjmflkaiakaaGreatDoorSp2
import Derived.Deep.LoopGhost
import Derived.OwnWalk
import Derived.Test.YtmchjmflkaiakaaGreatDoorSp3
set_option maxHeartbeats 4000000
set_option maxRecDepth 20000
namespace Go.Proofs.YtmchjmflkaiakaaGreatDoor
open Go.RowKit
set_option linter.unusedVariables false
set_option linter.unusedSimpArgs false
variable {W : World} {l : List Own}
theorem sgR_sgn (x : Rat) : sgR x = sgnQ x := by unfold sgR sgnQ cmpQ; grind
theorem chg_bd : ∀ (l : List Int) (a : Int), 0 ≤ chg a l ∧ chg a l ≤ (l.length : Int)
 | [], a => by unfold chg; simp
 | s :: r, a => by
   have := chg_bd r (if s = 0 then a else s)
   rw [chg_cons, List.length_cons]
   split <;> omega
theorem chgs_bd (cs : List Nums) (x : Rat) : 0 ≤ chgs cs x ∧ chgs cs x ≤ (cs.length : Int) := by
 have := chg_bd (cs.map fun p => sgR (ev p x)) 0
 rw [List.length_map] at this
 exact this
theorem CAt.open_ {w : World} {v : Value} {cs : List Nums} (h : CAt w v cs) : ∃ (g cap : Nat) (vs J : List Value), v = .slice (some ⟨g, 0, none⟩) cs.length cap ∧ Blk w g 55 (vs ++ J).toArray ∧ ∀ (i : Nat) (p : Nums), cs[i]? = some p → ∃ A c, (vs ++ J).toArray[1 * i]? = some (Value.slice A p.length c) ∧ RAt w A p := by
 obtain ⟨g, cap, vs, J, h1, h2, h3, h4⟩ := h
 refine ⟨g, cap, vs, J, h1, h3, fun i p hp => ?_⟩
 obtain ⟨A, c, h5, h6⟩ := h4.get hp
 refine ⟨A, c, ?_, h6.at_ St.start⟩
 have hi : i < vs.length := by
  rcases Nat.lt_or_ge i vs.length with h | h
  ·exact h
  ·rw [List.getElem?_eq_none h] at h5; cases h5
 rw [Nat.one_mul]
 simp only [List.getElem?_toArray]
 rw [List.getElem?_append_left hi]
 exact h5
theorem changes_q {K : Nat} {v : Value} {cs : List Nums} {x : Rat} {r : Int} (hT : Tab W) (hC : CAt W v cs) (hz : ChZ K cs x) (hr : chgs cs x = r) (hk : K ≤ 1000000000000) (w : World) (h : St W l w) : Rt 135 #[v, .agg (RC x)] w (.int .i64 r) := by
 obtain ⟨g, cap, vs, J, rfl, hB, hG⟩ := (hC.next h.below).open_
 have HB := yh hB
 have HG := yh hG
 clear hC hB hG
 have HX := yh hz.1
 have hn2 := hz.2.1
 have HZ := yh hz.2.2
 clear hz
 obtain ⟨n, hn⟩ : ∃ n, cs.length = n := ⟨_, rfl⟩
 rw [hn] at hn2 ⊢
 have HN := yh hn; clear hn
 have HT := yh (tabS hT h); clear hT h
 have HK := yh hk; clear hk
 have HR0 : Hid ((0 : Int) + chg 0 ((cs.drop 0).map fun p => sgR (ev p x)) = r) := yh (by rw [List.drop_zero, Int.zero_add]; exact hr)
 clear hr
 have HS0 : Hid (St w [] w) := yh St.start
 go_enter Tryz.func135, Tryz.ntmps135
 go_upto_region 0 with fail
 refine wp_seq_text [] (StR.no HS0.out) ?_
 refine bX (RC x) ?_
 intro b3 _ _ hb3
 refine nZ ?_
 refine pU ?_
 refine Seq.done fun wz hws => ?_
 have HS1 := yh (hws.q1)
 clear hws HS0
 go_wp2_with fail
 go_loopg [5, 6, 12] n (fun kx s5 s6 s12 wr => ∃ (i : Nat) (nn la : Int), kx = n - i ∧ s5 = .int .i64 nn ∧ s6 = .int .i64 la ∧ s12 = .int .i64 (i : Int) ∧ i ≤ n ∧ 0 ≤ nn ∧ nn ≤ (i : Int) ∧ Hid (la = 0 ∨ la = 1 ∨ la = -1) ∧ Hid (nn + chg la ((cs.drop i).map fun p => sgR (ev p x)) = r) ∧ Hid (St w [(b3, 27, RC x)] wr))
 case atStart => exact ⟨0, 0, 0, rfl, rfl, rfl, rfl, Nat.zero_le _, by omega, by omega, yh (.inl rfl), HR0, HS1⟩
 case round =>
  clear HS1 HR0
  obtain ⟨i, nn, la, hgk, rfl, rfl, rfl, hile, hnn0, hnni, HLA, HR, HS⟩ := hrel
  have HGK := yh hgk; clear hgk
  have hwi : IntKind.i64.wrap ((i : Int) + 1) = (i : Int) + 1 := IntWalk.i64_in _ (by omega)
  have hwn : IntKind.i64.wrap (nn + 1) = nn + 1 := IntWalk.i64_in _ (by omega)
  by_cases hin : i < n
  ·obtain ⟨p, hp⟩ : ∃ p, cs[i]? = some p := ⟨_, List.getElem?_eq_getElem (by rw [HN.out]; exact hin)⟩
   obtain ⟨Ai, ci, hv, hat⟩ := HG.out i p hp
   have hmem : p ∈ cs := List.mem_of_getElem? hp
   obtain ⟨hl1, hez, hrz⟩ := HZ.out p hmem
   have HV := yh hv
   have HAT := yh hat
   have HEZ := yh hez
   have HRZ := yh hrz
   have HDR : Hid (cs.drop i = p :: cs.drop (i + 1)) := yh (by
    have hi2 : i < cs.length := by rw [HN.out]; exact hin
    rw [List.drop_eq_getElem_cons hi2]
    rw [List.getElem?_eq_getElem hi2] at hp
    injection hp with hp
    rw [hp])
   obtain ⟨pl, hpl⟩ : ∃ pl, p.length = pl := ⟨_, rfl⟩
   have HPL := yh hpl
   rw [hpl] at hl1 HV
   obtain ⟨s, hs⟩ : ∃ s, sgnQ (ev p x) = s := ⟨_, rfl⟩
   have HSG := yh hs
   have HS3 : Hid (s = 0 ∨ s = 1 ∨ s = -1) := yh (by rw [← hs]; unfold sgnQ cmpQ; grind)
   have HCH : Hid (nn + ((if s * la < 0 then 1 else 0) + chg (if s = 0 then la else s) ((cs.drop (i + 1)).map fun p => sgR (ev p x))) = r) := yh (by
    have h9 := HR.out
    rw [HDR.out, List.map_cons, chg_cons, sgR_sgn, hs] at h9
    exact h9)
   clear hp hv hat hmem hez hrz hpl hs HR HG HZ
   go_upto_region 4 with fail
   refine wp_seq_text [] (StR.no HS.out) ?_
   refine iX 1 i hin ?_
   refine Seq.loadCellF rfl rfl rfl rfl HB.out (v := .slice Ai pl ci) HV.out (by kernel_rfl) rfl (nZ ?_)
   refine pU ?_
   refine dnS fun _ HS2=>?_
   clear HS
   go_upto_region 5 with fail
   refine rgT [] HS2 ?_
   refine pU ?_
   refine lV ?_
   refine cL (evalP_S (K := K) (c := ci) (p := p) HT.out HAT.out HPL.out HEZ.out HX.out hl1 HK.out) ?_
   refine cX rfl rfl (sign_q (k := K) HT.out HRZ.out HSG.out (by have := HK.out; omega)) ?_
   refine pU ?_
   refine dnH fun _ HS=>?_
   clear HS2 HV HAT HEZ HRZ HSG
   rcases HS3.out with hs0 | hs0 | hs0 <;> rcases HLA.out with hl0 | hl0 | hl0 <;> subst hs0 hl0 <;> clear HLA HS3 <;> (
    have HC2 := yh HCH.out
    clear HCH
    go_wp2_with fail
    go_roundg (n - (i + 1))
    case measure => rw [HGK.out]; omega
    case rel => exact ⟨i + 1, _, _, rfl, rfl, rfl, by go_num, by omega, by omega, by omega, yh (by decide), yh (by have h9 := HC2.out; simp only [Int.reduceMul, Int.reduceLT, Int.reduceNeg, Int.reduceEq, reduceIte, Int.zero_mul, Int.mul_zero, Int.one_mul, Int.neg_mul, Int.mul_one, Int.zero_add, ← Int.add_assoc, Int.lt_irrefl] at h9 ⊢; exact h9), HS⟩)
  ·have HE : Hid (nn = r) := yh (by
    have h9 := HR.out
    rw [List.drop_of_length_le (by rw [HN.out]; omega)] at h9
    simp [chg] at h9
    exact h9)
   go_wp2_with fail
   go_ret
   exact ⟨by rw [HE.out]; rfl, HS.out.below⟩
theorem zeroP_q {K : Nat} {v : Value} {cs : List Nums} {x : Rat} {r : Bool} (hT : Tab W) (hC : CAt W v cs) (hne : cs ≠ []) (hz : ChZ K cs x) (hr : decide (ev (cs.headD []) x = 0) = r) (hk : K ≤ 1000000000000) (w : World) (h : St W l w) : Rt 124 #[v, .agg (RC x)] w (.bool r) := by
 obtain ⟨g, cap, vs, J, rfl, hB, hG⟩ := (hC.next h.below).open_
 have HB := yh hB
 obtain ⟨p0, hp0⟩ : ∃ p0, cs.headD [] = p0 := ⟨_, rfl⟩
 have hp1 : cs[0]? = some p0 := by
  cases cs with
  | nil => exact absurd rfl hne
  | cons c cs => simp at hp0 ⊢; exact hp0
 obtain ⟨A0, c0, hv0, hat0⟩ := hG 0 p0 hp1
 have HV0 := yh hv0
 have HAT0 := yh hat0
 have hmem : p0 ∈ cs := List.mem_of_getElem? hp1
 obtain ⟨hl1, hez, hrz⟩ := hz.2.2 p0 hmem
 have HEZ := yh hez
 have HRZ := yh hrz
 have HX := yh hz.1
 obtain ⟨pl, hpl⟩ : ∃ pl, p0.length = pl := ⟨_, rfl⟩
 have HPL := yh hpl
 rw [hpl] at hl1 HV0
 obtain ⟨n, hn⟩ : ∃ n, cs.length = n := ⟨_, rfl⟩
 have hn0 : 0 < n := by rw [← hn]; exact List.length_pos_iff.2 hne
 rw [hn]
 rw [hp0] at hr
 obtain ⟨s, hs⟩ : ∃ s, sgnQ (ev p0 x) = s := ⟨_, rfl⟩
 have hrs : (s == 0) = r := by
  rw [← hr, ← hs]
  by_cases h0 : ev p0 x = 0
  ·rw [decide_eq_true h0, beq_iff_eq, sgn_zero]; exact h0
  ·rw [decide_eq_false h0, beq_eq_false_iff_ne]; exact fun e => h0 ((sgn_zero _).1 e)
 have HSG := yh hs
 clear hC hB hG hp1 hv0 hat0 hmem hez hrz hz hpl hn hs hr hp0
 have HT := yh (tabS hT h); clear hT h
 have HK := yh hk; clear hk
 have HS0 : Hid (St w [] w) := yh St.start
 go_enter Tryz.func124, Tryz.ntmps124
 go_upto_region 0 with fail
 refine wp_seq_text [] (StR.no HS0.out) ?_
 refine bX (RC x) ?_
 intro b3 _ _ hb3
 refine nZ ?_
 refine pU ?_
 refine Seq.done fun wz hws => ?_
 have HS1 := hws.q1
 clear hws HS0
 go_upto_region 1 with fail
 refine rgW [] HS1 ?_
 refine pU ?_
 refine iX 1 0 hn0 ?_
 refine Seq.loadCellF rfl rfl rfl rfl HB.out (v := .slice A0 pl c0) HV0.out (by kernel_rfl) rfl (nZ ?_)
 refine lV ?_
 refine cL (evalP_S (K := K) (c := c0) (p := p0) HT.out HAT0.out HPL.out HEZ.out HX.out hl1 HK.out) ?_
 refine cX rfl rfl (sign_q (k := K) HT.out HRZ.out HSG.out (by have := HK.out; omega)) ?_
 refine pV (.bool r) (by intro w; go_simp <;> (first | (rw [hrs]; done) | exact hrs | omega | exact IntWalk.i64_in _ (by omega) | (go_num; done) | (simp [hrs]; done))) ?_
 refine pU ?_
 refine dnH fun _ HS2=>?_
 clear HS1
 go_wp2_with fail
 go_ret
 exact ⟨rfl, HS2.out.below⟩
theorem countP_q {K : Nat} {v : Value} {cs : List Nums} {lo hi : Rat} {r : Int} (hT : Tab W) (hC : CAt W v cs) (hne : cs ≠ []) (z1 : ChZ K cs lo) (z2 : ChZ K cs hi) (hr : CtR cs (lo, hi) = r) (hk : K ≤ 1000000000000) (w : World) (h : St W l w) : Rt 84 #[v, .agg (VC lo hi)] w (.int .i64 r) := by
 obtain ⟨u1, hu1⟩ : ∃ u1, chgs cs lo = u1 := ⟨_, rfl⟩
 obtain ⟨u2, hu2⟩ : ∃ u2, chgs cs hi = u2 := ⟨_, rfl⟩
 have hb1 := chgs_bd cs lo
 have hb2 := chgs_bd cs hi
 have hl := z1.2.1
 rw [hu1] at hb1
 rw [hu2] at hb2
 have hr1 : 0 ≤ u1 ∧ u1 ≤ 1000 := by omega
 have hr2 : 0 ≤ u2 ∧ u2 ≤ 1000 := by omega
 have HU1 := yh hu1
 have HU2 := yh hu2
 have HC := yh (hC.next h.below)
 have HNE := yh hne
 have HZ1 := yh z1
 have HZ2 := yh z2
 have hw1 : IntKind.i64.wrap (u1 - u2) = u1 - u2 := IntWalk.i64_in _ (by omega)
 have hw2 : IntKind.i64.wrap (u1 - u2 + 1) = u1 - u2 + 1 := IntWalk.i64_in _ (by omega)
 unfold CtR at hr
 rw [hu1, hu2] at hr
 clear hb1 hb2 hl hu1 hu2 hC hne z1 z2
 have HT := yh (tabS hT h); clear hT h
 have HK := yh hk; clear hk
 have HS0 : Hid (St w [] w) := yh St.start
 by_cases hz0 : ev (cs.headD []) lo = 0
 ·have HD : Hid (decide (ev (cs.headD []) lo = 0) = true) := yh (decide_eq_true hz0)
  have HR : Hid (u1 - u2 + 1 = r) := yh (by rw [if_pos hz0] at hr; exact hr)
  clear hz0 hr
  go_enter Tryz.func84, Tryz.ntmps84
  go_upto_region 0 with fail
  refine wp_seq_text [] (StR.no HS0.out) ?_
  refine bX (VC lo hi) ?_
  intro b3 _ _ hb3
  refine nZ ?_
  refine pU ?_
  refine Seq.done fun wz hws => ?_
  have HS1 := hws.q1
  clear hws HS0
  go_upto_region 1 with fail
  refine rgW [] HS1 ?_
  iterate 2 refine pU ?_
  refine lA (RC lo) ?_
  refine cL (changes_q (K := K) HT.out HC.out HZ1.out HU1.out HK.out) ?_
  iterate 2 refine pU ?_
  refine lA (RC hi) ?_
  refine cL (changes_q (K := K) HT.out HC.out HZ2.out HU2.out HK.out) ?_
  refine pV (.int .i64 (u1 - u2)) (by intro w; go_simp <;> (first | (rw [hw1]; done) | exact hw1 | omega | exact IntWalk.i64_in _ (by omega) | (go_num; done) | (simp [hw1]; done))) ?_
  refine pU ?_
  refine dnS fun w2 HS2=>?_
  clear HS1
  go_upto_region 2 with fail
  refine rgT [] HS2 ?_
  iterate 2 refine pU ?_
  refine lA (RC lo) ?_
  refine cL (zeroP_q (K := K) HT.out HC.out HNE.out HZ1.out HD.out HK.out) ?_
  refine dnH fun w3 HS3=>?_
  clear HS2
  go_wp2_with fail
  go_ret
  exact ⟨by rw [← HR.out]; rfl, HS3.out.below⟩
 ·have HD : Hid (decide (ev (cs.headD []) lo = 0) = false) := yh (decide_eq_false hz0)
  have HR : Hid (u1 - u2 = r) := yh (by rw [if_neg hz0] at hr; omega)
  clear hz0 hr
  go_enter Tryz.func84, Tryz.ntmps84
  go_upto_region 0 with fail
  refine wp_seq_text [] (StR.no HS0.out) ?_
  refine bX (VC lo hi) ?_
  intro b3 _ _ hb3
  refine nZ ?_
  refine pU ?_
  refine Seq.done fun wz hws => ?_
  have HS1 := hws.q1
  clear hws HS0
  go_upto_region 1 with fail
  refine rgW [] HS1 ?_
  iterate 2 refine pU ?_
  refine lA (RC lo) ?_
  refine cL (changes_q (K := K) HT.out HC.out HZ1.out HU1.out HK.out) ?_
  iterate 2 refine pU ?_
  refine lA (RC hi) ?_
  refine cL (changes_q (K := K) HT.out HC.out HZ2.out HU2.out HK.out) ?_
  refine pV (.int .i64 (u1 - u2)) (by intro w; go_simp <;> (first | (rw [hw1]; done) | exact hw1 | omega | exact IntWalk.i64_in _ (by omega) | (go_num; done) | (simp [hw1]; done))) ?_
  refine pU ?_
  refine dnS fun _ HS2=>?_
  clear HS1
  go_upto_region 2 with fail
  refine rgT [] HS2 ?_
  iterate 2 refine pU ?_
  refine lA (RC lo) ?_
  refine cL (zeroP_q (K := K) HT.out HC.out HNE.out HZ1.out HD.out HK.out) ?_
  refine dnH fun _ HS3=>?_
  clear HS2
  go_wp2_with fail
  go_ret
  exact ⟨by rw [← HR.out]; rfl, HS3.out.below⟩
theorem Rz.half : Rz 2 ((1 : Rat) / 2) := by
 have h1 : ((1 : Rat) / 2).num = 1 := by kernel_rfl
 have h2 : ((1 : Rat) / 2).den = 2 := by kernel_rfl
 refine ⟨?_, ?_⟩
 ·rw [h1]; exact bstr_length_le.2 (by decide)
 ·rw [h2]; exact bstr_length_le.2 (by decide)
theorem middle_q {K : Nat} {lo hi z : Rat} {W : World} {l : List Own} (hT : Tab W) (h2 : 2 ≤ K) (hz : MidZ K (lo, hi)) (hr : midQ (lo, hi) = z) (hk : K ≤ 1000000000000) (w : World) (h : St W l w) : Rt 123 #[.agg (VC lo hi)] w (.agg (RC z)) := by
 have HZL := yh hz.1
 have HZH := yh hz.2.1
 have HZA := yh hz.2.2.1
 have HR : Hid (1 / 2 * (lo + hi) = z) := yh hr
 have HH : Hid (Rz K (1 / 2)) := yh (Rz.half.more h2)
 clear hz hr h2
 have HT := yh (tabS hT h); clear hT h
 have HK := yh hk; clear hk
 have HS0 : Hid (St w [] w) := yh St.start
 go_enter Tryz.func123, Tryz.ntmps123
 go_upto_region 0 with fail
 refine wp_seq_text [] (StR.no HS0.out) ?_
 refine bX (VC lo hi) ?_
 intro b1 _ _ hb1
 refine nZ ?_
 refine aL3 ?_
 intro b2 _ _ hb2
 obtain ⟨_, _, hb2⟩ := Reg.ne2 hb2
 refine nZ ?_
 refine dn2 b2 b1 fun _ HS1=>?_
 clear HS0
 go_upto_region 1 with fail
 refine rgT [] HS1 ?_
 refine cX rfl rfl (make_q (m := 1) (n := 2) (z := 1 / 2) HT.out (by omega) (by omega) (by omega) (by omega) (by omega) rfl) ?_
 iterate 3 refine pU ?_
 refine aL3 ?_
 intro b3 _ _ hb3
 refine nZ ?_
 refine sV (RC_one _) ?_
 refine pU ?_
 refine dn1 b3 fun _ HS2=>?_
 clear HS1
 have HS3 := yh (StR.move (StR.no (St.perm HS2 (List.Perm.swap _ _ _))))
 clear HS2
 go_upto_region 2 with fail
 refine wS [] (Reg.fin.put Reg.fin_no _ _) HS3.out ?_
 refine lV ?_
 refine pU ?_
 refine lA (RC lo) ?_
 refine pU ?_
 refine lA (RC hi) ?_
 refine cX rfl rfl (add_q (k := K) HT.out HZL.out HZH.out rfl (by have := HK.out; omega)) ?_
 refine cX rfl rfl (mul_q (k := K) HT.out HH.out HZA.out HR.out (by have := HK.out; omega)) ?_
 refine sV (RC_one _) ?_
 refine Seq.done fun w3 hws => ?_
 have HS4 := hws.q1
 clear hws HS3
 go_wp2_with fail
 exact rO HS4 ⟨rfl, HS4.below⟩
theorem halve_q {K : Nat} {v : Value} {cs : List Nums} {lo hi z0 z1 : Rat} {W : World} {l : List Own} (hT : Tab W) (hC : CAt W v cs) (hne : cs ≠ []) (h2 : 2 ≤ K) (hz : HvZ K cs (lo, hi)) (hr : halveL cs (lo, hi) = (z0, z1)) (hk : K ≤ 1000000000000) (w : World) (h : St W l w) : Rt 76 #[v, .agg (VC lo hi)] w (.agg (VC z0 z1)) := by
 obtain ⟨m, hm⟩ : ∃ m, midQ (lo, hi) = m := ⟨_, rfl⟩
 have HM := yh hm
 have HMZ := yh hz.mid
 have HZL := yh hz.low
 have HZM : Hid (ChZ K cs m) := yh (by rw [← hm]; exact hz.at_)
 have HRM : Hid (Rz K m) := yh (by rw [← hm]; exact hz.mid.2.2.2)
 have HC := yh (hC.next h.below)
 have HNE := yh hne
 have H2 := yh h2
 unfold halveL at hr
 rw [hm] at hr
 clear hm hz hC hne h2
 have HT := yh (tabS hT h); clear hT h
 have HK := yh hk; clear hk
 have HS0 : Hid (St w [] w) := yh St.start
 by_cases hz0 : ev (cs.headD []) m = 0
 ·have HD : Hid (decide (ev (cs.headD []) m = 0) = true) := yh (decide_eq_true hz0)
  rw [if_pos hz0] at hr
  have HR := yh hr
  clear hz0 hr
  go_enter Tryz.func76, Tryz.ntmps76
  go_upto_region 0 with fail
  refine wp_seq_text [] (StR.no HS0.out) ?_
  refine bX (VC lo hi) ?_
  intro b3 _ _ hb3
  refine nZ ?_
  refine aL6 ?_
  intro b4 _ _ hb4
  obtain ⟨_, _, hb4⟩ := Reg.ne2 hb4
  refine nZ ?_
  refine dn2 b3 b4 fun wz HS1=>?_
  clear HS0
  go_upto_region 1 with fail
  refine rgT [] HS1 ?_
  refine lV ?_
  refine cL (middle_q (K := K) HT.out H2.out HMZ.out HM.out HK.out) ?_
  refine aL3 ?_
  intro b5 _ _ hb5
  refine nZ ?_
  refine sV (RC_one _) ?_
  refine Seq.done fun w2 hws => ?_
  have HS1 : St w [(b4, 32, #[.bool false, .string ⟨#[]⟩, .string ⟨#[]⟩, .bool false, .string ⟨#[]⟩, .string ⟨#[]⟩]), (b5, 27, RC m), (b3, 32, VC lo hi)] w2 := by
   have h9 := hws.q1 (p := b5)
   exact St.perm h9 (List.perm_middle (l₁ := [_, _]) (l₂ := []))
  clear hws
  go_upto_region 2 with fail
  refine rgT [] HS1 ?_
  refine pU ?_
  refine lV ?_
  refine cL (zeroP_q (K := K) HT.out HC.out HNE.out HZM.out HD.out HK.out) ?_
  refine Seq.done fun w3 hws => ?_
  have HS2 : St w [(b5, 27, RC m), (b4, 32, #[.bool false, .string ⟨#[]⟩, .string ⟨#[]⟩, .bool false, .string ⟨#[]⟩, .string ⟨#[]⟩]), (b3, 32, VC lo hi)] w3 := St.perm hws.st (List.Perm.swap _ _ _)
  clear hws HS1
  have HS3 := yh (StR.move (StR.no (St.perm HS2 (l' := (b4, 32, #[.bool false, .string ⟨#[]⟩, .string ⟨#[]⟩, .bool false, .string ⟨#[]⟩, .string ⟨#[]⟩]) :: [(b5, 27, RC m), (b3, 32, VC lo hi)]) (List.Perm.swap _ _ _))))
  clear HS2
  go_upto_region 3 with fail
  refine wp_seq_text [] HS3.out ?_
  refine lV ?_
  refine cL (sof_q (k := K) HT.out HRM.out rfl rfl HK.out) ?_
  refine sV (VC_one _ _) ?_
  refine Seq.done fun w4 hws => ?_
  have HS4 := hws.q1
  clear hws HS3
  go_wp2_with fail
  exact ret_own rfl rfl rfl HS4 (by repeat first|exact mC|apply mT) (n := 6) rfl (by kernel_rfl) ⟨by rw [← (Prod.mk.inj HR.out).1, ← (Prod.mk.inj HR.out).2], HS4.below⟩
 ·have HD : Hid (decide (ev (cs.headD []) m = 0) = false) := yh (decide_eq_false hz0)
  rw [if_neg hz0] at hr
  obtain ⟨u, hu⟩ : ∃ u, CtR cs (lo, m) = u := ⟨_, rfl⟩
  have HU := yh hu
  rw [hu] at hr
  by_cases hu1 : u = 1
  ·subst hu1
   rw [if_pos rfl] at hr
   have HR := yh hr
   clear hz0 hr hu
   go_enter Tryz.func76, Tryz.ntmps76
   go_upto_region 0 with fail
   refine wp_seq_text [] (StR.no HS0.out) ?_
   refine bX (VC lo hi) ?_
   intro b3 _ _ hb3
   refine nZ ?_
   refine aL6 ?_
   intro b4 _ _ hb4
   obtain ⟨_, _, hb4⟩ := Reg.ne2 hb4
   refine nZ ?_
   refine dn2 b3 b4 fun wz HS1=>?_
   clear HS0
   go_upto_region 1 with fail
   refine rgT [] HS1 ?_
   refine lV ?_
   refine cL (middle_q (K := K) HT.out H2.out HMZ.out HM.out HK.out) ?_
   refine aL3 ?_
   intro b5 _ _ hb5
   refine nZ ?_
   refine sV (RC_one _) ?_
   refine Seq.done fun w2 hws => ?_
   have HS1 : St w [(b4, 32, #[.bool false, .string ⟨#[]⟩, .string ⟨#[]⟩, .bool false, .string ⟨#[]⟩, .string ⟨#[]⟩]), (b5, 27, RC m), (b3, 32, VC lo hi)] w2 := by
    have h9 := hws.q1 (p := b5)
    exact St.perm h9 (List.perm_middle (l₁ := [_, _]) (l₂ := []))
   clear hws
   go_upto_region 2 with fail
   refine rgT [] HS1 ?_
   refine pU ?_
   refine lV ?_
   refine cL (zeroP_q (K := K) HT.out HC.out HNE.out HZM.out HD.out HK.out) ?_
   refine Seq.done fun w3 hws => ?_
   have HS2 : St w [(b5, 27, RC m), (b4, 32, #[.bool false, .string ⟨#[]⟩, .string ⟨#[]⟩, .bool false, .string ⟨#[]⟩, .string ⟨#[]⟩]), (b3, 32, VC lo hi)] w3 := St.perm hws.st (List.Perm.swap _ _ _)
   clear hws HS1
   go_upto_region 4 with fail
   refine rgT [] HS2 ?_
   refine pU ?_
   refine lA (RC lo) ?_
   refine lV ?_
   refine pV (.agg (VC lo m)) (fun w => bld_Span rfl rfl rfl w) ?_
   refine aL6 ?_
   intro b6 _ _ hb6
   refine nZ ?_
   refine sV (VC_one _ _) ?_
   refine dn1 b6 fun w4 HS4=>?_
   clear HS2
   go_upto_region 5 with fail
   refine rgT [] HS4 ?_
   refine pU ?_
   refine lV ?_
   refine cL (countP_q (K := K) HT.out HC.out HNE.out HZL.out HZM.out HU.out HK.out) ?_
   refine pU ?_
   refine Seq.done fun w5 hws => ?_
   have HS5 : St w [(b6, 32, VC lo m), (b5, 27, RC m), (b4, 32, #[.bool false, .string ⟨#[]⟩, .string ⟨#[]⟩, .bool false, .string ⟨#[]⟩, .string ⟨#[]⟩]), (b3, 32, VC lo hi)] w5 := hws.st
   clear hws HS4
   have HS6 := yh (StR.move (StR.no (St.perm HS5 (l' := (b4, 32, #[.bool false, .string ⟨#[]⟩, .string ⟨#[]⟩, .bool false, .string ⟨#[]⟩, .string ⟨#[]⟩]) :: [(b6, 32, VC lo m), (b5, 27, RC m), (b3, 32, VC lo hi)]) (List.perm_middle (l₁ := [_, _]) (l₂ := [_])))))
   clear HS5
   go_upto_region 6 with fail
   refine wp_seq_text [] HS6.out ?_
   refine lV ?_
   refine sV (VC_one _ _) ?_
   refine Seq.done fun w6 hws => ?_
   have HS7 := hws.q1
   clear hws HS6
   go_wp2_with fail
   exact ret_own rfl rfl rfl HS7 (by repeat first|exact mC|apply mT) (n := 6) rfl (by kernel_rfl) ⟨by rw [← (Prod.mk.inj HR.out).1, ← (Prod.mk.inj HR.out).2], HS7.below⟩
  ·rw [if_neg hu1] at hr
   have hub : (u == 1) = false := by rw [beq_eq_false_iff_ne]; exact hu1
   have HR := yh hr
   clear hz0 hr hu hu1
   go_enter Tryz.func76, Tryz.ntmps76
   go_upto_region 0 with fail
   refine wp_seq_text [] (StR.no HS0.out) ?_
   refine bX (VC lo hi) ?_
   intro b3 _ _ hb3
   refine nZ ?_
   refine aL6 ?_
   intro b4 _ _ hb4
   obtain ⟨_, _, hb4⟩ := Reg.ne2 hb4
   refine nZ ?_
   refine dn2 b3 b4 fun _ HS1=>?_
   clear HS0
   go_upto_region 1 with fail
   refine rgT [] HS1 ?_
   refine lV ?_
   refine cL (middle_q (K := K) HT.out H2.out HMZ.out HM.out HK.out) ?_
   refine aL3 ?_
   intro b5 _ _ hb5
   refine nZ ?_
   refine sV (RC_one _) ?_
   refine Seq.done fun w2 hws => ?_
   have HS1 : St w [(b4, 32, #[.bool false, .string ⟨#[]⟩, .string ⟨#[]⟩, .bool false, .string ⟨#[]⟩, .string ⟨#[]⟩]), (b5, 27, RC m), (b3, 32, VC lo hi)] w2 := by
    have h9 := hws.q1 (p := b5)
    exact St.perm h9 (List.perm_middle (l₁ := [_, _]) (l₂ := []))
   clear hws
   go_upto_region 2 with fail
   refine rgT [] HS1 ?_
   refine pU ?_
   refine lV ?_
   refine cL (zeroP_q (K := K) HT.out HC.out HNE.out HZM.out HD.out HK.out) ?_
   refine Seq.done fun w3 hws => ?_
   have HS2 : St w [(b5, 27, RC m), (b4, 32, #[.bool false, .string ⟨#[]⟩, .string ⟨#[]⟩, .bool false, .string ⟨#[]⟩, .string ⟨#[]⟩]), (b3, 32, VC lo hi)] w3 := St.perm hws.st (List.Perm.swap _ _ _)
   clear hws HS1
   go_upto_region 4 with fail
   refine rgT [] HS2 ?_
   refine pU ?_
   refine lA (RC lo) ?_
   refine lV ?_
   refine pV (.agg (VC lo m)) (fun w => bld_Span rfl rfl rfl w) ?_
   refine aL6 ?_
   intro b6 _ _ hb6
   refine nZ ?_
   refine sV (VC_one _ _) ?_
   refine dn1 b6 fun _ HS4=>?_
   clear HS2
   go_upto_region 5 with fail
   refine rgT [] HS4 ?_
   refine pU ?_
   refine lV ?_
   refine cL (countP_q (K := K) HT.out HC.out HNE.out HZL.out HZM.out HU.out HK.out) ?_
   refine pU ?_
   refine Seq.done fun w5 hws => ?_
   have HS5 : St w [(b6, 32, VC lo m), (b5, 27, RC m), (b4, 32, #[.bool false, .string ⟨#[]⟩, .string ⟨#[]⟩, .bool false, .string ⟨#[]⟩, .string ⟨#[]⟩]), (b3, 32, VC lo hi)] w5 := hws.st
   clear hws HS4
   have HS6 := yh (StR.move (StR.no (St.perm HS5 (l' := (b4, 32, #[.bool false, .string ⟨#[]⟩, .string ⟨#[]⟩, .bool false, .string ⟨#[]⟩, .string ⟨#[]⟩]) :: [(b6, 32, VC lo m), (b5, 27, RC m), (b3, 32, VC lo hi)]) (List.perm_middle (l₁ := [_, _]) (l₂ := [_])))))
   clear HS5
   go_upto_region 7 with fail
   refine wp_seq_text [] HS6.out ?_
   refine lV ?_
   refine pU ?_
   refine lA (RC hi) ?_
   refine pV (.agg (VC m hi)) (fun w => bld_Span rfl rfl rfl w) ?_
   refine sV (VC_one _ _) ?_
   refine Seq.done fun w6 hws => ?_
   have HS7 := hws.q1
   clear hws HS6
   go_wp2_with fail
   exact ret_own rfl rfl rfl HS7 (by repeat first|exact mC|apply mT) (n := 6) rfl (by kernel_rfl) ⟨by rw [← (Prod.mk.inj HR.out).1, ← (Prod.mk.inj HR.out).2], HS7.below⟩
end Go.Proofs.YtmchjmflkaiakaaGreatDoor
