/- Package sturm: scaled (printed by std.py). -/
import Derived.Test.YtmchjmflkaiakaaGreatDoorStB
import Derived.Deep.LoopGhost
import Derived.OwnWalk
namespace Go.Proofs.YtmchjmflkaiakaaGreatDoor
open Go.RowKit
set_option linter.unusedVariables false
set_option linter.unusedSimpArgs false
set_option maxHeartbeats 4000000
set_option maxRecDepth 20000
theorem last_rx {p : Nums} {n : Nat} (hn : p.length = n) : p.getLast?.getD 0 = rx p (n - 1) := by
 subst hn
 unfold rx
 rw [List.getLast?_eq_getElem?, List.getD_eq_getElem?_getD]
theorem scaled_len (p : Nums) : (scaledL p).length = p.length := by simp [scaledL]
theorem scaled_rx {p : Nums} {n i : Nat} (hn : p.length = n) (hi : i < p.length) : rx (scaledL p) i = rx p i / absQ (rx p (n - 1)) := by
 rw [← last_rx hn]
 have h2 : i < (scaledL p).length := by rw [scaled_len]; exact hi
 rw [← rx_get h2, ← rx_get hi]
 simp [scaledL]
 rfl
theorem RNew.fresh {W : World} {q : Nums} {n : Nat} (hn : q.length = n) {e : Ending} {w' : World} (h : RNew W q e w') : ∃ p, W.heap.size ≤ p ∧ e = .returned (mk (some n) p) ∧ Below W.heap.size W w' ∧ Blk w' p 27 (RX [] q) := by
 obtain ⟨g, h1, h2⟩ := h
 have hb := h2.blk _ List.mem_cons_self
 exact ⟨g, hb.1, by rw [h1, hn]; rfl, h2.below, hb.2⟩
theorem abs_pos_ne {x : Rat} (h : x ≠ 0) : absQ x ≠ 0 := by unfold absQ; grind
theorem scaledP_S {K n c : Nat} {A : Option Addr} {p : Nums} (w : World) (hA : RAt w A p) (hn : p.length = n) (hz : Qz K p) (hl : p ≠ [] → p.getLast?.getD 0 ≠ 0) (hT : Tab w) (hn2 : n ≤ 1000) (hk : K ≤ 1000000000000) :
  Calls Tryz.prog 158 #[.slice A n c] w fun e w' => RNew w (scaledL p) e w' := by
 have HA := Lib.hid hA; clear hA
 have HN := Lib.hid hn; clear hn
 have HZ := Lib.hid hz; clear hz
 have HLD := Lib.hid hl; clear hl
 have HT := Lib.hid hT; clear hT
 have HK := Lib.hid hk; clear hk
 have HQN : Hid ((scaledL p).length = n) := Lib.hid (by rw [scaled_len]; exact HN.out)
 have HS0 : Hid (St w [] w) := Lib.hid St.start
 go_enter Tryz.func158, Tryz.ntmps158
 go_upto_region 1 with fail
 refine wp_seq_text [] (StR.no HS0.out) ?_
 iterate 2 refine pU ?_
 refine Seq.slice (n := n) (e := 27) (cs := RX (zr n) []) rfl rfl (fun w => mk_step rfl rfl rfl (madeQ_R n (by omega) w)) ?_
 intro g _ _ hg
 refine nZ ?_
 refine pU ?_
 refine Seq.done fun wz hws => ?_
 have HS2 : Hid (St w [(g, 27, RX (zr (n - 0)) ((scaledL p).take 0))] wz) := Lib.hid (hws.q1)
 clear hws HS0
 go_wp2_with fail
 go_loopg [11] n (fun kx s11 wr => ∃ i : Nat, kx = n - i ∧ s11 = .int .i64 (i : Int) ∧ i ≤ n ∧ Hid (St w [(g, 27, RX (zr (n - i)) ((scaledL p).take i))] wr))
 case atStart => exact ⟨0, rfl, rfl, Nat.zero_le _, HS2⟩
 case round =>
  clear HS2
  obtain ⟨i, hgk2, rfl, hile, HS3⟩ := hrel
  have HGK2 := Lib.hid hgk2; clear hgk2
  by_cases hin : i < n
  ·have HI := Lib.hid (show i < p.length by rw [HN.out]; omega)
   have HI1 := Lib.hid (show n - 1 < p.length by rw [HN.out]; omega)
   have hn1 : n - 1 < n := by omega
   have HQI := Lib.hid (show i < (scaledL p).length by rw [HQN.out]; omega)
   have HL := Lib.hid (take_len HQN.out (show i ≤ n by omega))
   obtain ⟨g0, J, rfl, hB⟩ := HA.out.get HI.out
   have HB := Lib.hid hB; clear hB
   have HNZ : Hid (rx p (n - 1) ≠ 0) := Lib.hid (by rw [← last_rx HN.out]; exact HLD.out (fun e => by have := HI.out; rw [e] at this; simp at this))
   obtain ⟨y, hy⟩ : ∃ y, absQ (rx p (n - 1)) = y := ⟨_, rfl⟩
   have HY := Lib.hid hy; clear hy
   have HYZ : Hid (Rz K y) := Lib.hid (by rw [← HY.out]; exact (HZ.out.at_ HI1.out).abs)
   have HYN : Hid (y ≠ 0) := Lib.hid (by rw [← HY.out]; exact abs_pos_ne HNZ.out)
   have HD : Hid (rx p i / y = rx (scaledL p) i) := Lib.hid (by rw [← HY.out]; exact (scaled_rx HN.out HI.out).symm)
   obtain ⟨k, hk⟩ : ∃ k, n - i = k + 1 := ⟨n - i - 1, by omega⟩
   have HK2 := Lib.hid (show n - (i + 1) = k by omega)
   rw [hk] at HS3
   clear hk
   have hwi : IntKind.i64.wrap ((i : Int) + 1) = (i : Int) + 1 := IntWalk.i64_in _ (by omega)
   have hwn : IntKind.i64.wrap ((n : Int) - 1) = ((n - 1 : Nat) : Int) := by rw [show ((n - 1 : Nat) : Int) = (n : Int) - 1 by omega]; exact IntWalk.i64_in _ (by omega)
   go_upto_region 4 with fail
   refine wp_seq_text [] (StR.no HS3.out) ?_
   refine pU ?_
   refine iX 3 i hin ?_
   refine lF HB.out (RC (rx p i)) (RX_room HI.out) (RX_at HI.out) ?_
   refine aL3 ?_
   intro b5 _ _ hb5
   refine nZ ?_
   refine pU ?_
   refine sV (RC_one _) ?_
   refine Seq.done fun w2 hws => ?_
   have HS4 := Lib.hid (hws.q1)
   clear hws HS3
   have HS5 := Lib.hid (StR.move (StR.no (St.perm HS4.out (List.Perm.swap _ _ _))))
   clear HS4
   go_upto_region 5 with fail
   refine wS [] (Reg.fin.put Reg.fin_no _ _) HS5.out ?_
   iterate 2 refine pU ?_
   refine lV ?_
   iterate 3 refine pU ?_
   refine pV (.int .i64 ((n - 1 : Nat) : Int)) (by intro w; go_simp <;> (first | (rw [hwn]; done) | exact hwn | omega | exact IntWalk.i64_in _ (by omega) | (go_num; done) | (simp [hwn]; done))) ?_
   refine iX 3 (n - 1) hn1 ?_
   refine lF HB.out (RC (rx p (n - 1))) (RX_room HI1.out) (RX_at HI1.out) ?_
   refine cX rfl rfl (abs_q (k := K) HT.out (HZ.out.at_ HI1.out) HY.out (by have := HK.out; omega)) ?_
   refine cX rfl rfl (div_q (k := K) HT.out (HZ.out.at_ HI.out) HYZ.out HYN.out HD.out (by have := HK.out; omega)) ?_
   iterate 3 refine pU ?_
   refine iX 3 i hin ?_
   refine Seq.storeAt (v := .agg (RC (rx (scaledL p) i))) rfl rfl rfl rfl rfl (by repeat first|exact rS|refine rN ‹_› ?_) (RX_roomZ HL.out) (by show _ = some 3; kernel_rfl) (RC_one _) (cs' := RX (zr k) ((scaledL p).take i ++ [(rx (scaledL p) i)])) (RX_push HL.out) (nZ ?_)
   refine Seq.done fun w3 hws => ?_
   have HS6 : Hid (St w [(g, 27, RX (zr (n - (i + 1))) ((scaledL p).take (i + 1)))] w3) := Lib.hid (by
    rw [HK2.out, take_succ_rx HQI.out]
    exact St.sub (hws.q1) (List.cons_sublist_cons.2 (List.nil_sublist _)))
   clear hws HS5
   go_wp2_with fail
   go_roundg (n - (i + 1))
   case measure => rw [HGK2.out]; omega
   case rel => exact ⟨i + 1, rfl, by go_num, by omega, HS6⟩
  ·have HE : Hid (RNew w (scaledL p) (.returned (.slice (some ⟨g, 0, none⟩) n n)) wr) := Lib.hid (by
    have e : i = n := by omega
    subst e
    have h1 := HS3.out
    rw [Nat.sub_self, List.take_of_length_le (by rw [HQN.out]; exact Nat.le_refl _)] at h1
    exact ⟨g, by rw [HQN.out], h1⟩)
   go_wp2_with fail
   go_ret
   exact HE.out
end Go.Proofs.YtmchjmflkaiakaaGreatDoor
