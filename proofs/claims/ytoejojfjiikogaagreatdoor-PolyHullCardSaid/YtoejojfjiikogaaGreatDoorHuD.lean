/- slices.Reverse of points (printed by hullq.py). -/
import Derived.Test.YtoejojfjiikogaaGreatDoorHuC
import Derived.Deep.LoopGhost
import Derived.OwnWalk

namespace Go.Proofs.YtoejojfjiikogaaGreatDoor
open Go.RowKit
set_option linter.unusedVariables false
set_option linter.unusedSimpArgs false

theorem pts_ext {a b : Pts} (h : a.length = b.length) (hp : ∀ k, k < a.length → pt a k = pt b k) : a = b := by
  apply List.ext_getElem h
  intro k h1 h2
  rw [pt_get h1, pt_get h2, hp k h1]
theorem pt_reverse {ps : Pts} {k : Nat} (h : k < ps.length) : pt ps.reverse k = pt ps (ps.length - 1 - k) := by
  have h1 : k < ps.reverse.length := by simpa using h
  rw [← pt_get h1, List.getElem_reverse, pt_get]
/-- the outer a places at each end have changed sides -/
def RevP (a : Nat) (ps qs : Pts) : Prop := qs.length = ps.length ∧ 2 * a ≤ ps.length + 1 ∧ ∀ k, k < ps.length → pt qs k = if k < a ∨ ps.length ≤ k + a then pt ps (ps.length - 1 - k) else pt ps k
def swx (qs : Pts) (a b : Nat) : Pts := (qs.set a (pt qs b)).set b (pt qs a)
theorem swx_length (qs : Pts) (a b : Nat) : (swx qs a b).length = qs.length := by simp [swx]
theorem swx_pt {qs : Pts} {a b : Nat} (ha : a < qs.length) (hb : b < qs.length) (k : Nat) : pt (swx qs a b) k = if k = b then pt qs a else if k = a then pt qs b else pt qs k := by
  unfold swx
  have h1 : b < (qs.set a (pt qs b)).length := by rw [set_length]; exact hb
  show (px _ k, py _ k) = _
  rw [px_set h1, py_set h1, px_set ha, py_set ha]
  by_cases e1 : b = k
  · subst e1; simp [pt]
  · by_cases e2 : a = k
    · subst e2; rw [if_neg e1, if_neg e1, if_pos rfl, if_pos rfl, if_neg (fun e => e1 e.symm), if_pos rfl]
    · rw [if_neg e1, if_neg e1, if_neg e2, if_neg e2, if_neg (fun e => e1 e.symm), if_neg (fun e => e2 e.symm)]; rfl
theorem rev_start (ps : Pts) : RevP 0 ps ps := ⟨rfl, by omega, fun k hk => by rw [if_neg (by omega)]⟩
theorem rev_step {ps qs : Pts} {a b : Nat} (h : RevP a ps qs) (hb : a + b + 1 = ps.length) (hlt : a < b) : RevP (a + 1) ps (swx qs a b) := by
  obtain ⟨h1, h2, h3⟩ := h
  refine ⟨by rw [swx_length, h1], by omega, fun k hk => ?_⟩
  have ha' : pt qs a = pt ps a := by rw [h3 a (by omega), if_neg (by omega)]
  have hb' : pt qs b = pt ps b := by rw [h3 b (by omega), if_neg (by omega)]
  rw [swx_pt (by omega) (by omega), ha', hb', h3 k hk]
  by_cases e1 : k = b
  · subst e1; rw [if_pos rfl, if_pos (by omega), show ps.length - 1 - k = a by omega]
  · rw [if_neg e1]
    by_cases e2 : k = a
    · subst e2; rw [if_pos rfl, if_pos (by omega), show ps.length - 1 - k = b by omega]
    · rw [if_neg e2]
      by_cases e3 : k < a ∨ ps.length ≤ k + a
      · rw [if_pos e3, if_pos (by omega)]
      · rw [if_neg e3, if_neg (by omega)]
theorem rev_end {ps qs : Pts} {a : Nat} (h : RevP a ps qs) (he : ps.length ≤ 2 * a + 1) : qs = ps.reverse := by
  obtain ⟨h1, h2, h3⟩ := h
  refine pts_ext (by simpa using h1) fun k hk => ?_
  rw [h3 k (by omega), pt_reverse (by omega)]
  by_cases e : k < a ∨ ps.length ≤ k + a
  · rw [if_pos e]
  · rw [if_neg e, show ps.length - 1 - k = k by omega]
set_option maxHeartbeats 2000000 in
set_option maxRecDepth 20000 in
theorem reverse_S {W : World} {l : List Own} {g n cap : Nat} {J : List Value} {ps : Pts} (hn : ps.length = n) (hn2 : n ≤ 1000) (w : World) (h : St W ((g, 26, PX J ps) :: l) w) :
    Calls Tryz.prog 58 #[.slice (some ⟨g, 0, none⟩) n cap] w fun e w' => e = .returned (.tuple #[]) ∧ St W ((g, 26, PX J ps.reverse) :: l) w' := by
  have HN := Lib.hid hn; clear hn
  have HST := Lib.hid h; clear h
  have hw0 : IntKind.i64.wrap ((n : Int) - 1) = (n : Int) - 1 := IntWalk.i64_in _ (by omega)
  go_enter Tryz.func58, Tryz.ntmps58
  go_wp2_with fail
  clear hw0
  go_loopg [2, 3] n (fun kx s2 s3 wr => ∃ (a : Nat) (qs : Pts), kx = n - a ∧ s2 = .int .i64 (a : Int) ∧ s3 = .int .i64 ((n : Int) - 1 - (a : Int)) ∧ a ≤ n + 1 ∧ Hid (RevP a ps qs) ∧ Hid (St W ((g, 26, PX J qs) :: l) wr))
  case atStart => exact ⟨0, ps, by omega, rfl, by go_num, by omega, Lib.hid (rev_start ps), HST⟩
  case round =>
    clear HST
    obtain ⟨a, qs, hgk, rfl, rfl, han1, HQ, HS⟩ := hrel
    have HGK := Lib.hid hgk; clear hgk
    by_cases hlt : 2 * a + 1 < n
    · obtain ⟨b, hb⟩ : ∃ b : Nat, a + b + 1 = n := ⟨n - 1 - a, by omega⟩
      have hab : a < b := by omega
      have hanx : a + 1 ≤ n := by omega
      have e1 : (n : Int) - 1 - (a : Int) = (b : Int) := by omega
      have han : a < n := by omega
      have hbn : b < n := by omega
      have HL := Lib.hid (show qs.length = n by rw [HQ.out.1]; exact HN.out)
      have HA1 := Lib.hid (show a < qs.length by rw [HL.out]; exact han)
      have HB1 := Lib.hid (show b < qs.length by rw [HL.out]; exact hbn)
      have HB2 := Lib.hid (show b < (qs.set a (px qs b, py qs b)).length by rw [set_length, HL.out]; exact hbn)
      have HR := Lib.hid (rev_step HQ.out (by rw [HN.out]; exact hb) hab)
      have hw1 : IntKind.i64.wrap ((a : Int) + 1) = (a : Int) + 1 := IntWalk.i64_in _ (by omega)
      have hw2 : IntKind.i64.wrap ((b : Int) - 1) = (b : Int) - 1 := IntWalk.i64_in _ (by omega)
      have e2 : Hid ((b : Int) - 1 = (n : Int) - 1 - ((a + 1 : Nat) : Int)) := Lib.hid (by omega)
      have habi : (a : Int) < (b : Int) := by omega
      rw [e1]
      clear e1 hb hlt
      go_upto_region 3 with (fail)
      refine wp_seq [14, 22] (by kernel_rfl) (by kernel_rfl) (Reg.fin.put Reg.fin_no _ _) (StR.move (StR.no HS.out)) ?_
      refine Seq.pure rfl rfl (by intro w; go_simp; try rfl) ?_
      simp only [Act.put, nA, nB, nC]
      refine Seq.pure rfl rfl (by intro w; go_simp; try rfl) ?_
      simp only [Act.put, nA, nB, nC]
      refine Seq.pure rfl rfl (by intro w; go_simp; try rfl) ?_
      simp only [Act.put, nA, nB, nC]
      refine Seq.pure rfl rfl (by intro w; go_simp; try rfl) ?_
      simp only [Act.put, nA, nB, nC]
      refine Seq.pure rfl rfl (by intro w; go_simp; try rfl) ?_
      simp only [Act.put, nA, nB, nC]
      refine Seq.pure rfl rfl (by intro w; go_simp; try rfl) ?_
      simp only [Act.put, nA, nB, nC]
      refine Seq.index (m := 6) b rfl rfl rfl rfl rfl (by kernel_rfl) rfl hbn ?_
      simp only [Act.put, nA, nB, nC]
      refine Seq.getAt rfl rfl rfl rfl (by repeat (first | exact rS | refine rN (by assumption) ?_)) (n := 6) (cs' := VC (px qs b) (py qs b)) (PX_room HB1.out) (by kernel_rfl) (PX_at HB1.out) ?_
      simp only [Act.put, nA, nB, nC]
      refine Seq.pure rfl rfl (by intro w; go_simp; try rfl) ?_
      simp only [Act.put, nA, nB, nC]
      refine Seq.pure rfl rfl (by intro w; go_simp; try rfl) ?_
      simp only [Act.put, nA, nB, nC]
      refine Seq.index (m := 6) a rfl rfl rfl rfl rfl (by kernel_rfl) rfl han ?_
      simp only [Act.put, nA, nB, nC]
      refine Seq.getAt rfl rfl rfl rfl (by repeat (first | exact rS | refine rN (by assumption) ?_)) (n := 6) (cs' := VC (px qs a) (py qs a)) (PX_room HA1.out) (by kernel_rfl) (PX_at HA1.out) ?_
      simp only [Act.put, nA, nB, nC]
      refine Seq.index (m := 6) a rfl rfl rfl rfl rfl (by kernel_rfl) rfl han ?_
      simp only [Act.put, nA, nB, nC]
      refine Seq.storeAt (v := .agg (VC (px qs b) (py qs b))) rfl rfl rfl rfl rfl (by repeat (first | exact rS | refine rN (by assumption) ?_)) (PX_room HA1.out) (by show _ = some 6; kernel_rfl) (VC_one _ _) (cs' := PX J (qs.set a ((px qs b), (py qs b)))) (PX_put HA1.out) ?_
      simp only [Act.put, nA, nB, nC]
      refine Seq.index (m := 6) b rfl rfl rfl rfl rfl (by kernel_rfl) rfl hbn ?_
      simp only [Act.put, nA, nB, nC]
      refine Seq.storeAt (v := .agg (VC (px qs a) (py qs a))) rfl rfl rfl rfl rfl (by repeat (first | exact rS | refine rN (by assumption) ?_)) (PX_room HB2.out) (by show _ = some 6; kernel_rfl) (VC_one _ _) (cs' := PX J ((qs.set a (px qs b, py qs b)).set b ((px qs a), (py qs a)))) (PX_put HB2.out) ?_
      simp only [Act.put, nA, nB, nC]
      refine Seq.done fun wz2 hws => ?_
      have HS3 := Lib.hid (hws.list1 (by repeat (first | exact rS | refine rN (by assumption) ?_)))
      clear hws HS
      go_wp2_with fail
      go_roundg (n - (a + 1))
      case measure => rw [HGK.out]; omega
      case rel => exact ⟨a + 1, swx qs a b, rfl, by go_num, by rw [← e2.out], by omega, HR, HS3⟩
    · have HE : Hid (qs = ps.reverse) := Lib.hid (rev_end HQ.out (by rw [HN.out]; omega))
      have hge : ¬ (a : Int) < (n : Int) - 1 - (a : Int) := by omega
      have hge2 : decide ((a : Int) < (n : Int) - 1 - (a : Int)) = false := decide_eq_false hge
      go_wp2_with fail
      go_end0
      exact ⟨rfl, by rw [← HE.out]; exact HS.out⟩
end Go.Proofs.YtoejojfjiikogaaGreatDoor
