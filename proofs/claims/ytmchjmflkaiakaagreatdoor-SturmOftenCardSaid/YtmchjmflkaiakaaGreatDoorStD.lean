/- Package sturm: divide (printed by std.py). -/
import Derived.Test.YtmchjmflkaiakaaGreatDoorStC
import Derived.Deep.LoopGhost
import Derived.OwnWalk
set_option maxHeartbeats 4000000
set_option maxRecDepth 20000
namespace Go.Proofs.YtmchjmflkaiakaaGreatDoor
open Go.RowKit
set_option linter.unusedVariables false
set_option linter.unusedSimpArgs false
theorem zeros_succ (i : Nat) : zerosL i ++ [0] = zerosL (i + 1) := by unfold zerosL; rw [List.replicate_succ']
theorem zeros_len (i : Nat) : (zerosL i).length = i := by simp [zerosL]
theorem sub_at (b : Rat) : ∀ (k : Nat) (rest q : Nums) (j : Nat), k + q.length ≤ rest.length → k + q.length ≤ j → rx (subL b k rest q) j = rx rest j
 | 0, rest, [], j, _, _ => by unfold subL; rfl
 | k + 1, rest, [], j, _, _ => by unfold subL; rfl
 | 0, r :: rest, c :: q, j, h, hj => by
   obtain ⟨j, rfl⟩ : ∃ i, j = i + 1 := ⟨j - 1, by simp only [List.length_cons] at hj; omega⟩
   unfold subL
   have := sub_at b 0 rest q j (by simp only [List.length_cons] at h; omega) (by simp only [List.length_cons] at hj; omega)
   unfold rx at *
   rw [List.getD_cons_succ, List.getD_cons_succ]
   exact this
 | k + 1, r :: rest, c :: q, j, h, hj => by
   obtain ⟨j, rfl⟩ : ∃ i, j = i + 1 := ⟨j - 1, by omega⟩
   unfold subL
   have := sub_at b k rest (c :: q) j (by simp only [List.length_cons] at h ⊢; omega) (by simp only [List.length_cons] at hj ⊢; omega)
   unfold rx at *
   rw [List.getD_cons_succ, List.getD_cons_succ]
   exact this
 | _, [], c :: q, j, h, _ => by simp at h
theorem sub_snoc (b : Rat) : ∀ (k : Nat) (rest q : Nums) (c : Rat), k + q.length < rest.length → subL b k rest (q ++ [c]) = (subL b k rest q).set (k + q.length) (rx rest (k + q.length) - b * c)
 | 0, r :: rest, [], c, h => by
   show subL b 0 (r :: rest) [c] = _
   unfold subL
   cases rest <;> rfl
 | 0, r :: rest, d :: q, c, h => by
   have := sub_snoc b 0 rest q c (by simp only [List.length_cons] at h; omega)
   show subL b 0 (r :: rest) (d :: (q ++ [c])) = _
   unfold subL
   rw [this]
   simp only [List.length_cons, Nat.zero_add]
   rw [List.set_cons_succ]
   unfold rx
   rw [List.getD_cons_succ]
 | k + 1, r :: rest, [], c, h => by
   have := sub_snoc b k rest [] c (by simp only [List.length_cons, List.length_nil] at h ⊢; omega)
   show subL b (k + 1) (r :: rest) [c] = _
   have e1 : ∀ l : Nums, subL b k l [] = l := fun l => by cases k <;> (unfold subL; rfl)
   have e2 : subL b (k + 1) (r :: rest) [] = r :: rest := by unfold subL; rfl
   have e3 : subL b (k + 1) (r :: rest) [c] = r :: subL b k rest [c] := by rw [subL]
   rw [e3, e2, show ([c] : Nums) = [] ++ [c] from rfl, this, e1]
   simp only [List.length_nil, Nat.add_zero, List.nil_append]
   rw [List.set_cons_succ]
   unfold rx
   rw [List.getD_cons_succ]
 | k + 1, r :: rest, d :: q, c, h => by
   have := sub_snoc b k rest (d :: q) c (by simp only [List.length_cons] at h ⊢; omega)
   show subL b (k + 1) (r :: rest) (d :: (q ++ [c])) = _
   have e3 : ∀ z : Nums, subL b (k + 1) (r :: rest) (d :: z) = r :: subL b k rest (d :: z) := fun z => by rw [subL]
   rw [e3, e3, show d :: (q ++ [c]) = (d :: q) ++ [c] from rfl, this, show k + 1 + (d :: q).length = (k + (d :: q).length) + 1 by omega, List.set_cons_succ]
   unfold rx
   rw [List.getD_cons_succ]
 | 0, [], q, c, h => by simp at h
 | k + 1, [], q, c, h => by simp at h
theorem sub_cons_nil (b : Rat) (k : Nat) (l : Nums) : subL b k l [] = l := by cases k <;> (unfold subL; rfl)
theorem sub_take {b : Rat} {k m i : Nat} {rest q : Nums} (hm : q.length = m) (h : k + m ≤ rest.length) (hi : i < m) :
  rx (subL b k rest (q.take i)) (k + i) = rx rest (k + i) ∧ subL b k rest (q.take (i + 1)) = (subL b k rest (q.take i)).set (k + i) (rx rest (k + i) - b * rx q i) ∧ (subL b k rest (q.take i)).length = rest.length := by
 have hl : (q.take i).length = i := take_len hm (by omega)
 refine ⟨sub_at b k rest _ _ (by rw [hl]; omega) (by rw [hl]; exact Nat.le_refl _), ?_, sub_len b k rest _ (by rw [hl]; omega)⟩
 rw [take_succ_rx (by rw [hm]; exact hi), sub_snoc b k rest _ _ (by rw [hl]; omega), hl]
theorem getD_of_set {p : Nums} {i : Nat} {v : Rat} (h : i < p.length) : rx (p.set i v) i = v := by
 unfold rx
 rw [List.getD_eq_getElem?_getD, List.getElem?_set]
 simp [h]
theorem divideP_S {K n m c c2 : Nat} {A A2 : Option Addr} {p q by2 rest2 : Nums} (w : World) (hA : RAt w A p) (hA2 : RAt w A2 q) (hn : p.length = n) (hm : q.length = m) (hD : DivR K p q by2 rest2) (hT : Tab w) (hn2 : n ≤ 1000) (hm2 : m ≤ 1000) (hk : K ≤ 1000000000000) :
  Calls Tryz.prog 159 #[.slice A n c, .slice A2 m c2] w fun e w' => ∃ g1 g2, e = .returned (.tuple #[.slice (some ⟨g1, 0, none⟩) by2.length by2.length, .slice (some ⟨g2, 0, none⟩) rest2.length rest2.length]) ∧ St w [(g1, 27, RX [] by2), (g2, 27, RX [] rest2)] w' := by
 have HA := yh hA; clear hA
 have HN := yh hn; clear hn
 have HM := yh hm; clear hm
 have HZP := yh hD.zp
 have HZQ := yh hD.zq
 have HLD : Hid (rx q (m - 1) ≠ 0) := yh (by rw [← last_rx HM.out]; exact hD.ld)
 have hm0 : 0 < m := by rw [← HM.out]; exact List.length_pos_iff.2 hD.ne
 obtain ⟨gq, J, rfl, hB⟩ := hA2.get (i := 0) (by rw [HM.out]; exact hm0)
 have HBQ := yh hB; clear hB hA2
 obtain ⟨dn, hrun⟩ := hD.run
 have HRUN := yh hrun; clear hrun hD
 have HT := yh hT; clear hT
 have HK := yh hk; clear hk
 obtain ⟨p0, hp0⟩ : ∃ p0, trimL p = p0 := ⟨_, rfl⟩
 obtain ⟨n0, hn0⟩ : ∃ n0, p0.length = n0 := ⟨_, rfl⟩
 have hn01 : n0 ≤ n := by rw [← hn0, ← hp0, ← HN.out]; exact trim_len p
 have HP0 := yh hp0; clear hp0
 have HN0 := yh hn0; clear hn0
 obtain ⟨nb, hnb⟩ : ∃ nb, n0 + 1 - m = nb := ⟨_, rfl⟩
 have hwd : IntKind.i64.wrap ((n0 : Int) - (m : Int)) = (n0 : Int) - (m : Int) := IntWalk.i64_in _ (by omega)
 have hwd1 : IntKind.i64.wrap ((n0 : Int) - (m : Int) + 1) = (n0 : Int) - (m : Int) + 1 := IntWalk.i64_in _ (by omega)
 have hmax : max (0 : Int) ((n0 : Int) - (m : Int) + 1) = (nb : Int) := by omega
 have hnb1 : nb ≤ 1000 := by omega
 have HNB := yh hnb; clear hnb
 have HS0 : Hid (St w [] w) := yh St.start
 go_enter Tryz.func159, Tryz.ntmps159
 go_upto_region 1 with fail
 refine wp_seq_text [1000001] (StR.no HS0.out) ?_
 refine pU ?_
 refine Seq.callFresh (n := some n0) (x := (27, RX [] p0)) rfl rfl rfl rfl (by kernel_rfl) (fun w' h' => by have := trimP_S (c := c) w' (HA.out.next h'.st.below) HN.out HZP.out (tabS HT.out h'.st) (by omega) HK.out; rw [HP0.out] at this; exact this.mono fun e w2 h2 => h2.fresh HN0.out) ?_
 intro gr _ _ hgr
 refine nZ ?_
 refine pU ?_
 refine Seq.done fun wz hws => ?_
 have HS1 := hws.q1
 clear hws HS0
 go_upto_region 2 with fail
 refine rgT [] HS1 ?_
 iterate 4 refine pU ?_
 refine pV (.int .i64 ((n0 : Int) - (m : Int))) (by intro w; go_simp <;> (first | (rw [hwd]; done) | exact hwd | omega | exact IntWalk.i64_in _ (by omega) | (go_num; done) | (simp [hwd]; done))) ?_
 refine pV (.int .i64 ((n0 : Int) - (m : Int) + 1)) (by intro w; go_simp <;> (first | (rw [hwd1]; done) | exact hwd1 | omega | exact IntWalk.i64_in _ (by omega) | (go_num; done) | (simp [hwd1]; done))) ?_
 refine pV (.int .i64 (nb : Int)) (by intro w; go_simp <;> (first | (rw [hmax]; done) | exact hmax | omega | exact IntWalk.i64_in _ (by omega) | (go_num; done) | (simp [hmax]; done))) ?_
 refine Seq.slice (n := nb) (e := 27) (cs := RX (zr nb) []) rfl rfl (fun w => mk_step rfl rfl rfl (madeQ_R nb (by omega) w)) ?_
 intro g _ _ hg
 refine nZ ?_
 refine pU ?_
 refine Seq.done fun wz2 hws => ?_
 have HS2 : Hid (St w [(g, 27, RX (zr (nb - 0)) (zerosL 0)), (gr, 27, RX [] p0)] wz2) := yh (hws.q1)
 clear hws HS1 hmax hwd hwd1
 go_wp2_with fail
 go_loopg [22] nb (fun kx s22 wr => ∃ i : Nat, kx = nb - i ∧ s22 = .int .i64 (i : Int) ∧ i ≤ nb ∧ Hid (St w [(g, 27, RX (zr (nb - i)) (zerosL i)), (gr, 27, RX [] p0)] wr))
 case atStart => exact ⟨0, rfl, rfl, Nat.zero_le _, HS2⟩
 case round =>
  clear HS2
  obtain ⟨i, hgk2, rfl, hile, HS3⟩ := hrel
  have HGK2 := yh hgk2; clear hgk2
  by_cases hin : i < nb
  ·have HL := yh (zeros_len i)
   obtain ⟨k, hk⟩ : ∃ k, nb - i = k + 1 := ⟨nb - i - 1, by omega⟩
   have HK2 := yh (show nb - (i + 1) = k by omega)
   rw [hk] at HS3
   clear hk
   have hwi : IntKind.i64.wrap ((i : Int) + 1) = (i : Int) + 1 := IntWalk.i64_in _ (by omega)
   go_upto_region 6 with fail
   refine wp_seq_text [] (StR.move (StR.no HS3.out)) ?_
   iterate 2 refine pU ?_
   refine cX rfl rfl (of_q (n := 0) (z := 0) HT.out (by omega) (by omega) (by simp)) ?_
   refine iX 3 i hin ?_
   refine Seq.storeAt (v := .agg (RC 0)) rfl rfl rfl rfl rfl (by repeat first|exact rS|refine rN ‹_› ?_) (RX_roomZ HL.out) (by show _ = some 3; kernel_rfl) (RC_one _) (cs' := RX (zr k) (zerosL i ++ [0])) (RX_push HL.out) (nZ ?_)
   refine Seq.done fun w2 hws => ?_
   have HS4 : Hid (St w [(g, 27, RX (zr (nb - (i + 1))) (zerosL (i + 1))), (gr, 27, RX [] p0)] w2) := yh (by rw [HK2.out, ← zeros_succ]; exact hws.q1)
   clear hws HS3
   go_wp2_with fail
   go_roundg (nb - (i + 1))
   case measure => rw [HGK2.out]; omega
   case rel => exact ⟨i + 1, rfl, by go_num, by omega, HS4⟩
  ·have HS4 : Hid (St w [(g, 27, RX [] (zerosL nb)), (gr, 27, RX [] p0)] wr) := yh (by
    have e : i = nb := by omega
    subst e
    have h1 := HS3.out
    rw [Nat.sub_self] at h1
    exact h1)
   have HRUN0 : Hid (DvR K q dn (zerosL nb) p0 by2 rest2) := yh (by rw [← HNB.out, ← HN0.out, ← HP0.out]; have := HRUN.out; rw [HM.out] at this; exact this)
   clear HS3 HRUN
   go_wp2_with fail
   go_loopg [5] dn (fun kx s5 wr => ∃ (gr n1 : Nat) (by1 rest1 : Nums), s5 = .slice (some ⟨gr, 0, none⟩) n1 n1 ∧ n1 ≤ n0 ∧ Hid (rest1.length = n1) ∧ Hid (by1.length = nb) ∧ Hid (DvR K q kx by1 rest1 by2 rest2) ∧ Hid (St w [(g, 27, RX [] by1), (gr, 27, RX [] rest1)] wr))
   case atStart => exact ⟨gr, n0, zerosL nb, p0, rfl, Nat.le_refl _, HN0, yh (zeros_len _), HRUN0, HS4⟩
   case round =>
    clear HS4 HRUN0 HGK2
    obtain ⟨gr, n1, by1, rest1, rfl, hn10, HL1, HLB, HRUN, HS⟩ := hrel
    have hcase := HRUN.out
    clear HRUN
    cases hcase with
    | stop h1 h2 =>
      have hlt : ¬ (m : Int) ≤ (n1 : Int) := by rw [HM.out, HL1.out] at h2; omega
      have hge : ¬ m ≤ n1 := by omega
      have HE : Hid (∃ g1 g2, (Ending.returned (.tuple #[.slice (some ⟨g, 0, none⟩) nb nb, .slice (some ⟨gr, 0, none⟩) n1 n1])) = .returned (.tuple #[.slice (some ⟨g1, 0, none⟩) by2.length by2.length, .slice (some ⟨g2, 0, none⟩) rest2.length rest2.length]) ∧ St w [(g1, 27, RX [] by2), (g2, 27, RX [] rest2)] wr) := yh ⟨g, gr, by rw [HLB.out, HL1.out], HS.out⟩
      clear h1 h2
      go_wp2_with fail
      go_ret2
      exact HE.out
    | @step dn2 _ _ _ _ b h1 h2 h3 h4 h5 h6 h7 =>
      have HZR := yh h1
      have hge : m ≤ n1 := by rw [HM.out, HL1.out] at h2; exact h2
      have hgeI : (m : Int) ≤ (n1 : Int) := by omega
      have HBB : Hid (rx rest1 (n1 - 1) / rx q (m - 1) = b) := yh (by rw [← last_rx HL1.out, ← last_rx HM.out]; exact h3)
      have HBZ := yh h4
      have HPZ := yh h5
      obtain ⟨k, hk⟩ : ∃ k, n1 - m = k := ⟨_, rfl⟩
      have HSZ : Hid (Qz K (subL b k rest1 q)) := yh (by rw [← hk, ← HL1.out, ← HM.out]; exact h6)
      have HRUN : Hid (DvR K q dn2 (by1.set k b) (trimL (subL b k rest1 q)) by2 rest2) := yh (by rw [← hk, ← HL1.out, ← HM.out]; exact h7)
      clear h1 h2 h3 h4 h5 h6 h7
      have hkm : k + m = n1 := by omega
      have hkn : k < nb := by have := HNB.out; omega
      have hwk : IntKind.i64.wrap ((n1 : Int) - (m : Int)) = (k : Int) := by rw [show (n1 : Int) - (m : Int) = (k : Int) by omega]; exact IntWalk.i64_in _ (by omega)
      have HKM := yh hk; clear hk
      have hn1 : n1 - 1 < n1 := by omega
      have hm1 : m - 1 < m := by omega
      have HR1 := yh (show n1 - 1 < rest1.length by rw [HL1.out]; omega)
      have HQ1 := yh (show m - 1 < q.length by rw [HM.out]; omega)
      have HBK := yh (show k < by1.length by rw [HLB.out]; exact hkn)
      have hwn1 : IntKind.i64.wrap ((n1 : Int) - 1) = ((n1 - 1 : Nat) : Int) := by rw [show ((n1 - 1 : Nat) : Int) = (n1 : Int) - 1 by omega]; exact IntWalk.i64_in _ (by omega)
      have hwm1 : IntKind.i64.wrap ((m : Int) - 1) = ((m - 1 : Nat) : Int) := by rw [show ((m - 1 : Nat) : Int) = (m : Int) - 1 by omega]; exact IntWalk.i64_in _ (by omega)
      have HKN := yh hkn
      go_upto_region 9 with fail
      refine wp_seq_text [] (StR.no HS.out) ?_
      iterate 4 refine pU ?_
      refine pV (.int .i64 (k : Int)) (by intro w; go_simp <;> (first | (rw [hwk]; done) | exact hwk | omega | exact IntWalk.i64_in _ (by omega) | (go_num; done) | (simp [hwk]; done))) ?_
      refine pU ?_
      refine dnS fun w2 HS5=>?_
      clear HS
      go_upto_region 10 with fail
      refine wS [] (Reg.fin.put Reg.fin_no _ _) (StR.move (StR.no HS5)) ?_
      iterate 5 refine pU ?_
      refine pV (.int .i64 ((n1 - 1 : Nat) : Int)) (by intro w; go_simp <;> (first | (rw [hwn1]; done) | exact hwn1 | omega | exact IntWalk.i64_in _ (by omega) | (go_num; done) | (simp [hwn1]; done))) ?_
      refine iX 3 (n1 - 1) hn1 ?_
      refine lM (RC (rx rest1 (n1 - 1))) (RX_room HR1.out) (RX_at HR1.out) ?_
      iterate 3 refine pU ?_
      refine pV (.int .i64 ((m - 1 : Nat) : Int)) (by intro w; go_simp <;> (first | (rw [hwm1]; done) | exact hwm1 | omega | exact IntWalk.i64_in _ (by omega) | (go_num; done) | (simp [hwm1]; done))) ?_
      refine iX 3 (m - 1) hm1 ?_
      refine lF HBQ.out (RC (rx q (m - 1))) (RX_room HQ1.out) (RX_at HQ1.out) ?_
      refine cX rfl rfl (div_q (k := K) HT.out (HZR.out.at_ HR1.out) (HZQ.out.at_ HQ1.out) HLD.out HBB.out (by have := HK.out; omega)) ?_
      iterate 3 refine pU ?_
      refine iX 3 k hkn ?_
      refine Seq.storeAt (v := .agg (RC b)) rfl rfl rfl rfl rfl (by repeat first|exact rS|refine rN ‹_› ?_) (RX_room HBK.out) (by show _ = some 3; kernel_rfl) (RC_one _) (cs' := RX [] (by1.set k b)) (RX_put HBK.out) (nZ ?_)
      refine Seq.done fun w3 hws => ?_
      obtain ⟨by3, hby3⟩ : ∃ by3, by1.set k b = by3 := ⟨_, rfl⟩
      have HS6 : Hid (St w [(gr, 27, RX [] (subL b k rest1 (q.take 0))), (g, 27, RX [] by3)] w3) := yh (by
       rw [← hby3, List.take_zero, sub_cons_nil]
       exact St.perm (hws.q1) (List.Perm.swap _ _ _))
      have HB3 : Hid (rx by3 k = b) := yh (by rw [← hby3]; exact getD_of_set HBK.out)
      have HBK3 : Hid (k < by3.length) := yh (by rw [← hby3, List.length_set]; exact HBK.out)
      have HLB3 : Hid (by3.length = nb) := yh (by rw [← hby3, List.length_set]; exact HLB.out)
      have HRUN3 : Hid (DvR K q dn2 by3 (trimL (subL b k rest1 q)) by2 rest2) := yh (by rw [← hby3]; exact HRUN.out)
      clear hws HS5 hby3 HRUN HLB HBK
      go_wp2_with fail
      go_loopg [61] m (fun kx s61 wr => ∃ i : Nat, kx = m - i ∧ s61 = .int .i64 (i : Int) ∧ i ≤ m ∧ Hid (St w [(gr, 27, RX [] (subL b k rest1 (q.take i))), (g, 27, RX [] by3)] wr))
      case atStart => exact ⟨0, rfl, rfl, Nat.zero_le _, HS6⟩
      case round =>
       clear HS6
       obtain ⟨i, hgk3, rfl, himle, HS7⟩ := hrel
       have HGK3 := yh hgk3; clear hgk3
       by_cases him : i < m
       ·have HSUB := yh (sub_take (b := b) (rest := rest1) HM.out (show k + m ≤ rest1.length by rw [HL1.out]; omega) him)
        obtain ⟨r1, hr1⟩ : ∃ r1, subL b k rest1 (q.take i) = r1 := ⟨_, rfl⟩
        rw [hr1] at HSUB HS7
        have HSB2 : Hid (subL b k rest1 (q.take (i + 1)) = r1.set (k + i) (rx rest1 (k + i) - b * rx q i)) := yh HSUB.out.2.1
        have HQI := yh (show i < q.length by rw [HM.out]; omega)
        have HRI := yh (show k + i < r1.length by rw [HSUB.out.2.2, HL1.out]; omega)
        have HRI1 := yh (show k + i < rest1.length by rw [HL1.out]; omega)
        have hki : k + i < n1 := by omega
        have HPR : Hid (Rz K (b * rx q i)) := yh (HPZ.out _ (by rw [← rx_get HQI.out]; exact List.getElem_mem _))
        have HV : Hid (rx r1 (k + i) - b * rx q i = rx rest1 (k + i) - b * rx q i) := yh (by rw [HSUB.out.1])
        have HRZ : Hid (Rz K (rx r1 (k + i))) := yh (by rw [HSUB.out.1]; exact HZR.out.at_ HRI1.out)
        have HMU : Hid (rx by3 k * rx q i = b * rx q i) := yh (by rw [HB3.out])
        have HB3Z : Hid (Rz K (rx by3 k)) := yh (by rw [HB3.out]; exact HBZ.out)
        have hwi : IntKind.i64.wrap ((i : Int) + 1) = (i : Int) + 1 := IntWalk.i64_in _ (by omega)
        have hwki : IntKind.i64.wrap ((k : Int) + (i : Int)) = ((k + i : Nat) : Int) := by rw [show ((k + i : Nat) : Int) = (k : Int) + (i : Int) by omega]; exact IntWalk.i64_in _ (by omega)
        clear hr1
        go_upto_region 13 with fail
        refine wp_seq_text [] (StR.no HS7.out) ?_
        refine pU ?_
        refine iX 3 i him ?_
        refine lF HBQ.out (RC (rx q i)) (RX_room HQI.out) (RX_at HQI.out) ?_
        refine aL3 ?_
        intro b9 _ _ hb9
        refine nZ ?_
        refine pU ?_
        refine sV (RC_one _) ?_
        refine Seq.done fun w4 hws => ?_
        have HS8 := hws.q1
        clear hws HS7
        have HS9 := yh (StR.move (StR.no (St.perm HS8 (List.Perm.swap _ _ _))))
        clear HS8
        go_upto_region 14 with fail
        refine wS [18] (Reg.fin.put Reg.fin_no _ _) HS9.out ?_
        iterate 3 refine pU ?_
        refine pV (.int .i64 ((k + i : Nat) : Int)) (by intro w; go_simp <;> (first | (rw [hwki]; done) | exact hwki | omega | exact IntWalk.i64_in _ (by omega) | (go_num; done) | (simp [hwki]; done))) ?_
        iterate 3 refine pU ?_
        refine pV (.int .i64 ((k + i : Nat) : Int)) (by intro w; go_simp <;> (first | (rw [hwki]; done) | exact hwki | omega | exact IntWalk.i64_in _ (by omega) | (go_num; done) | (simp [hwki]; done))) ?_
        refine iX 3 (k + i) hki ?_
        refine lG (RC (rx r1 (k + i))) (RX_room HRI.out) (RX_at HRI.out) ?_
        iterate 2 refine pU ?_
        refine iX 3 k hkn ?_
        refine lM (RC (rx by3 k)) (RX_room HBK3.out) (RX_at HBK3.out) ?_
        refine lV ?_
        refine cX rfl rfl (mul_q (k := K) HT.out HB3Z.out (HZQ.out.at_ HQI.out) HMU.out (by have := HK.out; omega)) ?_
        refine cX rfl rfl (sub_q (k := K) HT.out HRZ.out HPR.out HV.out (by have := HK.out; omega)) ?_
        refine iX 3 (k + i) hki ?_
        refine Seq.storeAt (v := .agg (RC (rx rest1 (k + i) - b * rx q i))) rfl rfl rfl rfl rfl (by repeat first|exact rS|refine rN ‹_› ?_) (RX_room HRI.out) (by show _ = some 3; kernel_rfl) (RC_one _) (cs' := RX [] (r1.set (k + i) (rx rest1 (k + i) - b * rx q i))) (RX_put HRI.out) (nZ ?_)
        refine Seq.done fun w5 hws => ?_
        have HS10 : Hid (St w [(gr, 27, RX [] (subL b k rest1 (q.take (i + 1)))), (g, 27, RX [] by3)] w5) := yh (by
         rw [HSB2.out]
         exact St.sub (hws.q1) (List.cons_sublist_cons.2 (List.sublist_cons_self _ _)))
        clear hws HS9
        go_wp2_with fail
        go_roundg (m - (i + 1))
        case measure => rw [HGK3.out]; omega
        case rel => exact ⟨i + 1, rfl, by go_num, by omega, HS10⟩
       ·obtain ⟨r2, hr2⟩ : ∃ r2, subL b k rest1 q = r2 := ⟨_, rfl⟩
        have HL2 : Hid (r2.length = n1) := yh (by rw [← hr2, sub_len b k rest1 q (by rw [HM.out, HL1.out]; omega)]; exact HL1.out)
        have HS8 : Hid (St w [(gr, 27, RX [] r2), (g, 27, RX [] by3)] wr) := yh (by
         have e : i = m := by omega
         subst e
         have h1 := HS7.out
         rw [List.take_of_length_le (by rw [HM.out]; exact Nat.le_refl _), hr2] at h1
         exact h1)
        have HZ2 : Hid (Qz K r2) := yh (by rw [← hr2]; exact HSZ.out)
        have HRUN4 : Hid (DvR K q dn2 by3 (trimL r2) by2 rest2) := yh (by rw [← hr2]; exact HRUN3.out)
        obtain ⟨n2, hn2⟩ : ∃ n2, (trimL r2).length = n2 := ⟨_, rfl⟩
        have hn20 : n2 ≤ n0 := by have := trim_len r2; rw [hn2, HL2.out] at this; omega
        have HN2 := yh hn2
        clear HS7 hr2 hn2
        go_upto_region 16 with fail
        refine wp_seq_text [1000001] (StR.no HS8.out) ?_
        refine pU ?_
        refine Seq.callFresh (n := some n2) (x := (27, RX [] (trimL r2))) rfl rfl rfl rfl (by kernel_rfl) (fun w' h' => (trimP_S (c := n1) w' (.inr ⟨gr, [], rfl, (h'.st.blk _ List.mem_cons_self).2⟩) HL2.out HZ2.out (tabS HT.out h'.st) (by omega) HK.out).mono fun e w2 h2 => h2.fresh HN2.out) ?_
        intro gr2 _ _ hgr2
        refine nZ ?_
        refine pU ?_
        refine Seq.done fun w6 hws => ?_
        have HS9 : Hid (St w [(g, 27, RX [] by3), (gr2, 27, RX [] (trimL r2))] w6) := yh (by
         have h1 := hws.q1
         exact St.perm (St.sub h1 (List.cons_sublist_cons.2 (List.sublist_cons_self _ _))) (List.Perm.swap _ _ _))
        clear hws HS8
        go_wp2_with fail
        go_roundg dn2
        case measure => exact Nat.lt_succ_self _
        case rel => exact ⟨gr2, n2, by3, trimL r2, rfl, hn20, HN2, HLB3, HRUN4, HS9⟩
end Go.Proofs.YtmchjmflkaiakaaGreatDoor
