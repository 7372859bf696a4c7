/- Cells: grid.Within (printed by gridp.py). -/
import Derived.Test.YtoejojfjiikogaaDoorGrI

namespace Go.Proofs.YtoejojfjiikogaaDoor
open Go.RowKit
set_option linter.unusedVariables false
set_option linter.unusedSimpArgs false

theorem within_ix (sb la : List Ft) : (!decide (ixS (noB sb) la ≥ 0)) = la.all fun c => decide (c ∈ sb) := by
  cases hf : la.findIdx? (noB sb) with
  | none =>
    rw [ixS_none hf]
    have h := List.findIdx?_eq_none_iff.1 hf
    have e : (la.all fun c => decide (c ∈ sb)) = true := by
      rw [List.all_eq_true]
      intro c hc
      have := h c hc
      simpa [noB] using this
    rw [e]; rfl
  | some j =>
    rw [ixS_some hf]
    obtain ⟨hl, hb, _⟩ := List.findIdx?_eq_some_iff_getElem.1 hf
    have e : (la.all fun c => decide (c ∈ sb)) = false := by
      rw [List.all_eq_false]
      exact ⟨la[j], List.getElem_mem hl, by simpa [noB] using hb⟩
    rw [e, decide_eq_true (by omega)]; rfl
set_option maxHeartbeats 2000000 in
theorem gwithinf_any (lb : List Ft) (hl : Asc lb) (hs : lb.length ≤ 1000000) (p : Nat) (xs : List Ft) (A : Option Addr) (n c : Nat) (w : World) (hn : n = xs.length) (hm : n ≤ 9223372036854775807) (h : FactsAt w w.heap.size A xs) (hv : VarB p lb w) :
    Calls Tryd.prog 62 #[.slice A n c, .func (.func 63) #[] #[.pointer (some ⟨p, 0, none⟩)]] w fun e w' =>
      e = .returned (.bool (decide (ixS (noB lb) xs ≥ 0))) ∧ Below w.heap.size w w' := by
  have HI := Lib.hid (gwithini_any lb hl hs p xs A n c w hn hm h hv)
  clear hl hs hn hm h hv
  generalize ixS (noB lb) xs = ix at *
  go_enter Tryd.func62, Tryd.ntmps62
  go_wp2_with fail
  refine HI.out.mono ?_
  rintro e w2 ⟨rfl, hb2⟩
  have HB2 := Lib.hid hb2
  clear hb2
  go_wp2_with fail
  go_ret
  exact ⟨by first | rfl | simp, HB2.out⟩
set_option maxHeartbeats 4000000 in
set_option maxRecDepth 20000 in
theorem gwithin_any (la lb : List Ft) (va vb : Value) (w : World) (hA : Fs va la w) (hB : Fs vb lb w) (hs : la.length ≤ 1000) (hs2 : lb.length ≤ 1000) :
    Calls Tryd.prog 25 #[va, vb] w fun e w' => e = .returned (.bool (withinL la lb)) ∧ Below w.heap.size w w' := by
  obtain ⟨A, ca, rfl, hca, hma, hA⟩ := hA
  obtain ⟨B, cb, rfl, hcb, hmb, hB⟩ := hB
  have HA := Lib.hid hA
  have HB := Lib.hid hB
  have HNB : Hid ((ofL lb).length ≤ 1000000) := Lib.hid (by have := ofL_len_le lb; omega)
  have HNA : Hid (la.length ≤ 1000) := Lib.hid hs
  have HSL := Lib.hid (fun g W (hb : Below w.heap.size w W) (hk : Blk W g 56 #[.slice B lb.length cb]) => sorted1_any lb B lb.length cb g W rfl hs2 (((HB.out.below hb (Nat.le_refl _)).more hb.size)) hk)
  clear hA hB hca hma hcb hmb hs hs2
  have HAB := Lib.hid (ofL_asc lb)
  unfold SortPost at HSL
  unfold withinL
  generalize ofL lb = sb at *
  generalize hn : la.length = n at *
  have HN := Lib.hid hn.symm
  clear hn
  generalize lb.length = m at *
  clear HB
  go_enter Tryd.func25, Tryd.ntmps25
  go_upto_region 1 with (fail)
  have hbx : Below w.heap.size w (w.alloc (.cells #[.slice B m cb] 56)) := (Below.refl _ _).alloc (Nat.le_refl _) _
  have HB1 := Lib.hid hbx
  have HX1 := Lib.hid (Blk.new w 56 #[.slice B m cb])
  have HP : Hid (w.heap.size ≤ w.heap.size) := Lib.hid (Nat.le_refl _)
  clear hbx
  generalize World.alloc w _ = w1 at *
  obtain ⟨p, hp⟩ : ∃ p, p = w.heap.size := ⟨_, rfl⟩
  rw [← hp] at HX1
  have HPP := Lib.hid hp
  rw [← hp]
  clear hp
  have k0 := HX1.out.cell 0
  have hf0 := HX1.out.frozen 0
  simp at k0
  go_wp2_with fail
  clear k0 hf0
  have hby : Below w.heap.size w (w1.alloc (.cells #[.slice B m cb] 56)) := HB1.out.alloc HB1.out.size _
  have HX2 := Lib.hid (HX1.out.belowB ((Below.refl w1.heap.size w1).alloc (Nat.le_refl _) (.cells #[.slice B m cb] 56)))
  have HB2 := Lib.hid hby
  have HSL2 := Lib.hid (HSL.out w1.heap.size _ hby (Blk.new w1 _ _))
  clear hby HB1 HX1 HSL
  generalize w1.heap.size = q1 at *
  generalize World.alloc w1 _ = w2 at *
  refine HSL2.out.mono ?_
  rintro e w3 ⟨vb3, rfl, ho3, hb3⟩
  obtain ⟨B3, c3, rfl, hl3, hm3, hF3⟩ := ho3.facts
  have HX3 := Lib.hid (HX2.out.belowB hb3)
  have HB3 := Lib.hid (HB2.out.trans (hb3.mono HB2.out.size))
  have HF3 := Lib.hid hF3
  have k0 := HX3.out.cell 0
  have hf0 := HX3.out.frozen 0
  simp at k0
  clear ho3 hb3 hl3 hm3 hF3 HX2 HB2 HSL2
  have HV4 : Hid (Below w.heap.size w (w3.setCell ⟨p, 0, none⟩ (.slice B3 sb.length c3)) ∧ VarB p sb (w3.setCell ⟨p, 0, none⟩ (.slice B3 sb.length c3))) := Lib.hid (by
    refine ⟨HB3.out.setCell (p := ⟨p, 0, none⟩) (by have := HPP.out; show _ ≤ p; omega) _, B3, c3, by simpa using HX3.out.set_ 0 (.slice B3 sb.length c3), fun k s hs => ?_⟩
    obtain ⟨b, off, hA, hb, hc⟩ := HF3.out k s hs
    refine ⟨b, off, hA, by simpa using hb, fun j v hj => ?_⟩
    have hbp : b ≠ p := by
      rintro rfl
      have h9 := hc 0 (.int .i64 s.x) rfl
      rw [Nat.add_zero] at h9
      have h8 := HX3.out.cell (off + k * 2)
      rw [h8] at h9
      rcases Nat.eq_zero_or_pos (off + k * 2) with h7 | h7
      · rw [h7] at h9; simp at h9
      · rw [Array.getElem?_eq_none (by simp; omega)] at h9; cases h9
    rw [World.cell?_setCell_other _ _ _ _ (by intro e; first | exact hbp (congrArg Addr.block e) | exact hbp (congrArg Addr.block e).symm)]
    exact hc j v hj)
  have HW := Lib.hid (gwithinf_any sb HAB.out HNB.out p la A n ca _ HN.out (by have := HNA.out; omega) ((HA.out.below HV4.out.1 (Nat.le_refl _)).more HV4.out.1.size) HV4.out.2)
  have HE := Lib.hid (within_ix sb la)
  generalize hrb : decide (ixS (noB sb) la ≥ 0) = rb at *
  clear hrb
  generalize sb.length = nb at *
  go_wp2_with fail
  clear k0 hf0
  have HB4 := Lib.hid HV4.out.1
  clear HV4
  generalize World.setCell w3 _ _ = w4 at *
  refine HW.out.mono ?_
  rintro e w7 ⟨rfl, hb7⟩
  have HB7 := Lib.hid (HB4.out.trans (hb7.mono HB4.out.size))
  clear hb7
  go_wp2_with fail
  go_ret
  exact ⟨by rw [← HE.out]; rfl, HB7.out⟩
end Go.Proofs.YtoejojfjiikogaaDoor
