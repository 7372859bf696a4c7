/- The law PolyHull (printed by hulld.py). -/
import Derived.Test.YtoejojfjiikogaaGreatDoorHuH
import Derived.Test.YtoejojfjiikogaaGreatDoorHuI
import Derived.Test.YtoejojfjiikogaaGreatDoorHuK
import Derived.Test.YtoejojfjiikogaaGreatDoorHuM
import Derived.Test.YtoejojfjiikogaaGreatDoorPo5
import Derived.Deep.LoopGhost
import Derived.OwnWalk

namespace Go.Proofs.YtoejojfjiikogaaGreatDoor
open Go.RowKit
set_option linter.unusedVariables false
set_option linter.unusedSimpArgs false

/-- what the law needs of a hull -/
theorem hullPost_one {w : World} {ps : Pts} {e : Ending} {w' : World} (h : HullPost w ps e w') : Below w.heap.size w w' ∧ ∃ (hv : Value) (ec : Int), e = .returned (.tuple #[hv, .int .i64 ec]) ∧
    ((ec = 3 ∧ hv = .slice none 0 0) ∨ (ec = 0 ∧ ∃ (L H : Pts) (q g c : Nat) (J : List Value), L.Pairwise lxl ∧ (∀ p, p ∈ L ↔ p ∈ ps) ∧ 3 ≤ L.length ∧ H = hullL L ∧ H.length = q ∧ 3 ≤ q ∧ hv = .slice (some ⟨g, 0, none⟩) q c ∧ Blk w' g 26 (PX J H))) := by
  obtain ⟨L, h1, h2, h3, h4⟩ := h
  rcases h4 with ⟨_, he⟩ | ⟨h5, h6, g, c, J, h7, he, h8⟩
  · exact ⟨h3, _, 3, he, .inl ⟨rfl, rfl⟩⟩
  · exact ⟨h3, _, 0, he, .inr ⟨rfl, L, _, _, g, c, J, h1, h2, h5, rfl, rfl, h6, rfl, h8⟩⟩
/-- the hull of a hull -/
theorem hullPost_two {w : World} {L : Pts} {e : Ending} {w' : World} (hL : L.Pairwise lxl) (h2 : 3 ≤ L.length) (h3 : 3 ≤ (hullL L).length) (h : HullPost w (hullL L) e w') : Below w.heap.size w w' ∧ ∃ (g c : Nat) (J : List Value), e = .returned (.tuple #[.slice (some ⟨g, 0, none⟩) (hullL L).length c, .int .i64 0]) ∧ Blk w' g 26 (PX J (hullL L)) := by
  obtain ⟨L', a1, a2, a3, a4⟩ := h
  obtain ⟨e1, e2⟩ := hull_twice hL (by omega) a1 a2
  rw [e1, e2] at a4
  rcases a4 with ⟨h9 | h9, _⟩ | ⟨_, _, g, c, J, h7, he, h8⟩
  · omega
  · omega
  · exact ⟨a3, g, c, J, he, h8⟩
set_option maxHeartbeats 8000000 in
set_option maxRecDepth 20000 in
theorem polyHull_int {A0 : Option Addr} {n0 c0 : Nat} {xs0 : List Int} (w : World) (hi0 : Ints w A0 n0 c0 xs0) (hT : Tab w) :
    Calls Tryz.prog 4 #[.slice A0 n0 c0] w fun e w' => e = .returned (.bool true) ∧ Below w.heap.size w w' := by
  have HI := Lib.hid hi0; clear hi0
  have HT := Lib.hid hT; clear hT
  go_enter Tryz.func4, Tryz.ntmps4
  go_upto_region 4 with (first
    | (go_at_call 17; refine (pbegun_q HT.out _ St.start).mono ?_; rintro e wA ⟨rfl, hbA⟩
       have HBA := Lib.hid hbA; clear hbA)
    | (go_at_call 18; refine (points_R _ (HI.out.next HBA.out) (HT.out.next HBA.out)).mono ?_; rintro e wB ⟨v, m, hm, rfl, hR⟩
       have HR := Lib.hid hR; clear hR)
    | fail)
  obtain ⟨A, c, e9, hat⟩ := HR.out.at_
  have HBB : Hid (Below w.heap.size w wB) := Lib.hid (HBA.out.trans (HR.out.below.mono HBA.out.size))
  have HZP : Hid (Pz 2 (ptsN xs0 m)) := Lib.hid (ptsN_z xs0 m)
  rw [ptsN_len] at e9 hat
  subst e9
  have HAT := Lib.hid hat
  clear hat HR HBA HI
  generalize ptsN xs0 m = ps at *
  have HTB := Lib.hid (HT.out.next HBB.out)
  clear HT
  go_upto_region 5 with (first
    | (go_at_call 19; refine (hull_R (k := 2) HTB.out HZP.out HAT.out.1 hm (by omega) (by omega) _ (St.start (W := wB)) HAT.out.2).mono ?_; intro e wC hhp
       obtain ⟨hbC, hv, ec, rfl, hcase⟩ := hullPost_one hhp
       have HCS := Lib.hid hcase; have HBC := Lib.hid hbC; clear hcase hbC hhp)
    | fail)
  have HBW : Hid (Below w.heap.size w wC) := Lib.hid (HBB.out.trans (HBC.out.mono HBB.out.size))
  rcases HCS.out with ⟨rfl, rfl⟩ | ⟨rfl, L, H, q, g, cc, J, hL1, hL2, hL3, hH, hlen, hq3, rfl, hblk⟩
  · clear HCS
    go_wp2_with fail
    go_ret
    exact ⟨rfl, HBW.out⟩
  · clear HCS
    have HB := Lib.hid hblk
    have HLEN := Lib.hid hlen
    have HSUB : Hid (∀ p ∈ H, p ∈ ps) := Lib.hid (fun p hp => (hL2 p).1 (hull_sub hL1 (by omega) p (by rw [← hH]; exact hp)))
    have HHH : Hid (∀ p ∈ ps, hasB H p.1 p.2 = true) := Lib.hid (fun p hp => by rw [hH]; exact hull_has hL1 (by omega) ((hL2 p).2 hp))
    have HND : Hid (H.Nodup) := Lib.hid (by rw [hH]; exact hull_nodup hL1 (by omega))
    have hq12 : q ≤ 12 := by
      rw [← hlen]
      exact Nat.le_trans (nodup_len HND.out HSUB.out) (by rw [HAT.out.1]; exact hm)
    have HCV : Hid (3 ≤ q ∧ q ≤ 64 ∧ Cvx H) := Lib.hid ⟨hq3, by omega, by rw [hH]; exact hull_cvx hL1 (by omega)⟩
    have HZH : Hid (Pz 2 H) := Lib.hid (fun p hp => HZP.out p (HSUB.out p hp))
    have HTW : Hid (∀ (w : World) (e : Ending) (w' : World), HullPost w H e w' → Below w.heap.size w w' ∧ ∃ (g c : Nat) (J : List Value), e = .returned (.tuple #[.slice (some ⟨g, 0, none⟩) q c, .int .i64 0]) ∧ Blk w' g 26 (PX J H)) := Lib.hid (fun w e w' h => by
      subst hH
      have := hullPost_two hL1 hL3 (by omega) h
      rw [hlen] at this
      exact this)
    have HPT : Hid (AtP wC A m ps) := Lib.hid (HAT.out.next HBC.out)
    have HTC := Lib.hid (HTB.out.next HBC.out)
    have HS0 : Hid (St wC [] wC) := Lib.hid St.start
    clear hL1 hL2 hL3 hH hlen hblk HAT HTB HBC HBB HND
    clear L
    go_wp2_with fail
    go_loopg [32] q (fun kx s32 wr => ∃ i : Nat, kx = q - i ∧ s32 = .int .i64 (i : Int) ∧ i ≤ q ∧ Hid (St wC [] wr))
    case atStart => exact ⟨0, by omega, rfl, Nat.zero_le _, HS0⟩
    case round =>
      clear HS0
      obtain ⟨i, hgk, rfl, hin, HR⟩ := hrel
      have HGK := Lib.hid hgk; clear hgk
      by_cases hc : i < q
      · have HI := Lib.hid (show i < H.length by rw [HLEN.out]; exact hc)
        have hci : (i : Int) < (q : Int) := by omega
        have hw1 : IntKind.i64.wrap ((i : Int) + 1) = (i : Int) + 1 := IntWalk.i64_in _ (by omega)
        have HIN : Hid (decide (((px H i, py H i) : P2) ∈ ps) = true) := Lib.hid (decide_eq_true (HSUB.out _ (pt_mem HI.out)))
        go_upto_region 9 with (fail)
        refine wp_seq_text [] (StR.no HR.out) ?_
        refine Seq.index (m := 6) i rfl rfl rfl rfl rfl (by kernel_rfl) rfl hc ?_
        simp only [Act.put, nA, nB, nC]
        refine Seq.loadAtF rfl rfl rfl rfl HB.out (n := 6) (cs' := VC (px H i) (py H i)) (PX_room HI.out) (by kernel_rfl) (PX_at HI.out) ?_
        simp only [Act.put, nA, nB, nC]
        refine Seq.alloc rfl rfl rfl (z := .agg #[.bool false, .string ⟨#[]⟩, .string ⟨#[]⟩, .bool false, .string ⟨#[]⟩, .string ⟨#[]⟩]) (by kernel_rfl) rfl ?_
        intro b7 _ _ hb7
        simp only [Act.put, nA, nB, nC]
        refine Seq.store rfl rfl rfl rfl rfl (by repeat (first | exact rS | refine rN (by assumption) ?_)) (n := 6) rfl rfl (by kernel_rfl) (VC_one _ _) ?_
        simp only [Act.put, nA, nB, nC]
        refine Seq.done fun w9 hws => ?_
        have HS9 : St wC [(b7, 26, VC (px H i) (py H i))] w9 := hws.list1 (by repeat (first | exact rS | refine rN (by assumption) ?_))
        clear hws HR
        go_upto_region 10 with (fail)
        refine wp_seq_text [] (StR.no HS9) ?_
        refine Seq.pure rfl rfl (by intro w; go_simp; try rfl) ?_
        simp only [Act.put, nA, nB, nC]
        refine Seq.load rfl rfl rfl rfl (by repeat (first | exact mC | apply mT)) (n := 6) rfl (by kernel_rfl) ?_
        simp only [Act.put, nA, nB, nC]
        refine Seq.call rfl rfl rfl rfl (by kernel_rfl) (fun w h => contains_v (by omega) HIN.out w (HPT.out.next h.below)) ?_
        simp only [Act.put, nA, nB, nC]
        refine Seq.pure rfl rfl (by intro w; go_simp; try rfl) ?_
        simp only [Act.put, nA, nB, nC]
        refine Seq.done fun w10 hws => ?_
        have HS10 : Hid (St wC [] w10) := Lib.hid (St.begin hws.st.below)
        clear hws HS9
        go_wp2_with fail
        go_roundg (q - (i + 1))
        case measure => rw [HGK.out]; omega
        case rel => exact ⟨i + 1, rfl, by go_num, hc, HS10⟩
      · obtain rfl : i = q := by omega
        have hci : ¬ (i : Int) < (i : Int) := by omega
        clear hc hin HGK
        go_wp2_with fail
        go_loopg [43] m (fun kx s43 wr => ∃ k : Nat, kx = m - k ∧ s43 = .int .i64 (k : Int) ∧ k ≤ m ∧ Hid (St wC [] wr))
        case atStart => exact ⟨0, by omega, rfl, Nat.zero_le _, HR⟩
        case round =>
          clear HR
          obtain ⟨k, hgk, rfl, hkn, HR⟩ := hrel
          have HGK := Lib.hid hgk; clear hgk
          by_cases hc : k < m
          · obtain ⟨g2, J2, rfl, hb2⟩ := HPT.out.2 k hc
            have HB2 := Lib.hid hb2; clear hb2
            have HI := Lib.hid (show k < ps.length by rw [HPT.out.1]; exact hc)
            have hci2 : (k : Int) < (m : Int) := by omega
            have hw1 : IntKind.i64.wrap ((k : Int) + 1) = (k : Int) + 1 := IntWalk.i64_in _ (by omega)
            have HHAS : Hid (hasB H (px ps k) (py ps k) = true) := Lib.hid (HHH.out _ (pt_mem HI.out))
            go_upto_region 15 with (fail)
            refine wp_seq_text [] (StR.no HR.out) ?_
            refine Seq.index (m := 6) k rfl rfl rfl rfl rfl (by kernel_rfl) rfl hc ?_
            simp only [Act.put, nA, nB, nC]
            refine Seq.loadAtF rfl rfl rfl rfl HB2.out (n := 6) (cs' := VC (px ps k) (py ps k)) (PX_room HI.out) (by kernel_rfl) (PX_at HI.out) ?_
            simp only [Act.put, nA, nB, nC]
            refine Seq.alloc rfl rfl rfl (z := .agg #[.bool false, .string ⟨#[]⟩, .string ⟨#[]⟩, .bool false, .string ⟨#[]⟩, .string ⟨#[]⟩]) (by kernel_rfl) rfl ?_
            intro b7 _ _ hb7
            simp only [Act.put, nA, nB, nC]
            refine Seq.store rfl rfl rfl rfl rfl (by repeat (first | exact rS | refine rN (by assumption) ?_)) (n := 6) rfl rfl (by kernel_rfl) (VC_one _ _) ?_
            simp only [Act.put, nA, nB, nC]
            refine Seq.done fun w9 hws => ?_
            have HS9 : St wC [(b7, 26, VC (px ps k) (py ps k))] w9 := hws.list1 (by repeat (first | exact rS | refine rN (by assumption) ?_))
            clear hws HR
            go_upto_region 16 with (fail)
            refine wp_seq_text [] (StR.no HS9) ?_
            refine Seq.pure rfl rfl (by intro w; go_simp; try rfl) ?_
            simp only [Act.put, nA, nB, nC]
            refine Seq.load rfl rfl rfl rfl (by repeat (first | exact mC | apply mT)) (n := 6) rfl (by kernel_rfl) ?_
            simp only [Act.put, nA, nB, nC]
            refine Seq.call rfl rfl rfl rfl (by kernel_rfl) (fun w h => phas_x (k := 2) HTC.out HZH.out HLEN.out HCV.out (HZP.out.x HI.out) (HZP.out.y HI.out) HHAS.out (by omega) _ w h (h.came HB.out)) ?_
            simp only [Act.put, nA, nB, nC]
            refine Seq.pure rfl rfl (by intro w; go_simp; try rfl) ?_
            simp only [Act.put, nA, nB, nC]
            refine Seq.done fun w10 hws => ?_
            have HS10 : Hid (St wC [] w10) := Lib.hid (St.begin hws.st.below)
            clear hws HS9
            go_wp2_with fail
            go_roundg (m - (k + 1))
            case measure => rw [HGK.out]; omega
            case rel => exact ⟨k + 1, rfl, by go_num, hc, HS10⟩
          · obtain rfl : k = m := by omega
            have hci2 : ¬ (k : Int) < (k : Int) := by omega
            clear hc hkn HGK
            go_upto_region 20 with (first
              | (go_at_call 19; refine (hull_R (k := 2) HTC.out HZH.out HLEN.out hq12 (by omega) (by omega) _ HR.out (fun _ _ => ⟨g, J, rfl, HR.out.came HB.out⟩)).mono ?_; intro e wE hhp
                 obtain ⟨hbE, g3, c3, J3, rfl, hb3⟩ := HTW.out _ _ _ hhp
                 have HSE : Hid (St wC [] wE) := Lib.hid (HR.out.next hbE)
                 have HB3 := Lib.hid hb3
                 clear hhp hbE hb3)
              | fail)
            clear HR
            go_wp2_with (first
              | (go_at_call 22; refine (convex_x (k := 2) HTC.out HZH.out HLEN.out HCV.out (by omega) _ _ HSE.out (HSE.out.came HB.out)).mono ?_; rintro e wF ⟨rfl, hbF⟩
                 have HSF : Hid (St wC [] wF) := Lib.hid (HSE.out.next hbF)
                 have HB4 : Hid (Blk wF g3 26 (PX J3 H)) := Lib.hid (HB3.out.belowB hbF)
                 clear hbF)
              | (go_at_call 23; refine (equal_v (ps := H) (by omega) _ ⟨HLEN.out, fun _ _ => ⟨g3, J3, rfl, HB4.out⟩⟩ ⟨HLEN.out, fun _ _ => ⟨g, J, rfl, HSF.out.came HB.out⟩⟩).mono ?_; rintro e wG ⟨rfl, hbG⟩
                 have HSG : Hid (St wC [] wG) := Lib.hid (HSF.out.next hbG)
                 clear hbG)
              | fail)
            go_ret
            exact ⟨rfl, HBW.out.trans (HSG.out.below.mono HBW.out.size)⟩
end Go.Proofs.YtoejojfjiikogaaGreatDoor
