/- Cells: slices.DeleteFunc with the closure of Minus; grid.Minus (printed by gridp.py). -/
import Derived.Test.YtoejojfjiikogaaDoorGrD

namespace Go.Proofs.YtoejojfjiikogaaDoor
open Go.RowKit
set_option linter.unusedVariables false
set_option linter.unusedSimpArgs false

set_option maxHeartbeats 4000000 in
set_option maxRecDepth 20000 in
theorem gminusd_any (w0 : World) (lb : List Ft) (hl : Asc lb) (hs : lb.length ≤ 1000000) (p : Nat) (h0 : VarB p lb w0) (g cap n : Nat) (D : Array Ft) (w : World) (h : DvS w0 g cap D w) (hg : w0.heap.size ≤ g) (hn : D.size = n) (hsz : n ≤ 1000000) :
    Calls Tryd.prog 56 #[.slice (some ⟨g, 0, none⟩) n cap, .func (.func 61) #[] #[.pointer (some ⟨p, 0, none⟩)]] w fun e w' =>
      e = .returned (.slice (some ⟨g, 0, none⟩) (goodL (inB lb) D.toList).length cap) ∧ DvS w0 g cap (goodL (inB lb) D.toList).toArray w' := by
  have H := Lib.hid h
  have H0 := Lib.hid h0
  have HZ := Lib.hid hn
  have HG := Lib.hid hg
  have hle : n ≤ cap := by rw [← hn]; exact h.blk.le
  have HIX := Lib.hid (gminusi_any lb hl hs p D.toList (some ⟨g, 0, none⟩) n cap w (by simpa using hn.symm) (by omega) h.blk.factsAll (h0.next h.bel))
  have HCL := Lib.hid (fun c W (hb : Below w0.heap.size w0 W) => gminusc_any lb hl hs c p W (h0.next hb))
  clear h h0 hn hg hl hs
  generalize inB lb = bad at *
  cases hf : D.toList.findIdx? bad with
  | none =>
    have HGL : Hid (goodL bad D.toList = D.toList) := Lib.hid (by
      unfold goodL
      rw [List.filter_eq_self]
      intro s hs
      have := List.findIdx?_eq_none_iff.1 hf s hs
      simp [this])
    rw [ixS_none hf] at HIX
    clear hf
    go_enter Tryd.func56, Tryd.ntmps56
    go_wp2_with fail
    refine HIX.out.mono ?_
    rintro e w2 ⟨rfl, hb2⟩
    have H2 := Lib.hid (H.out.next hb2)
    clear hb2
    go_wp2_with fail
    go_ret
    exact ⟨by rw [HGL.out, Array.length_toList, HZ.out]; rfl, by rw [HGL.out]; exact H2.out⟩
  | some i0 =>
    rw [ixS_some hf] at HIX
    obtain ⟨hl0, hb0, hg0⟩ := List.findIdx?_eq_some_iff_getElem.1 hf
    have hi0 : i0 < D.size := by simpa using hl0
    have HI0 : Hid (DInv bad D (i0 + 1) i0 D) := Lib.hid (DInv.start hi0 (fun q hq => by
      have := hg0 q hq
      rw [getElem!_pos D q (by omega)]
      simpa using this) (by rw [getElem!_pos D i0 hi0]; simpa using hb0))
    have hin : i0 < n := by rw [← HZ.out]; exact hi0
    clear hf hl0 hb0 hg0 hi0
    go_enter Tryd.func56, Tryd.ntmps56
    go_wp2_with fail
    refine HIX.out.mono ?_
    rintro e w2 ⟨rfl, hb2⟩
    have H2 := Lib.hid (H.out.next hb2)
    clear hb2
    have hwi := i64_w ((i0 : Int) + 1) (by omega) (by omega)
    have hi1 : ((i0 : Int) == -1) = false := by simp
    go_wp2_with fail
    go_loopg [5, 6] (n - (i0 + 1)) (fun kx a b wr => ∃ (i j : Nat) (dk : Array Ft), kx = n - j ∧ j ≤ n ∧ a = .int .i64 i ∧ b = .int .i64 j ∧ Hid (DvS w0 g cap dk wr) ∧ Hid (DInv bad D j i dk))
    case atStart => exact ⟨i0, i0 + 1, D, rfl, by omega, rfl, by go_num, H2, HI0⟩
    case round =>
      clear H2 HI0 hwi hi1 hin
      obtain ⟨i, j, dk, hgk, hj, rfl, rfl, HV, HD⟩ := hrel
      have HGK := Lib.hid hgk; clear hgk
      have hij := HD.out.lt
      by_cases hlt : j < n
      · have hjD : j < D.size := by rw [HZ.out]; exact hlt
        have hjk : j < dk.size := by rw [HD.out.size]; exact hjD
        obtain ⟨c0, c1⟩ := HV.out.blk.cells hjk
        rw [HD.out.high j (Nat.le_refl _)] at c0 c1
        have HK := Lib.hid (fun hb => HD.out.keep hjD hb)
        have HS := Lib.hid (fun hb => HD.out.skip hjD hb)
        have HIK := Lib.hid (show i < dk.size by omega)
        have hic : i < cap := by omega
        clear hjD hjk
        generalize D[j]! = x at *
        have i1 : (0 : Int) ≤ (j : Int) := by omega
        have i2 : (j : Int) < (n : Int) := by omega
        have i3 : (0 : Int) ≤ (i : Int) := by omega
        have i4 : (i : Int) < (n : Int) := by omega
        obtain ⟨xx, xy⟩ := x
        dsimp only at c0 c1
        go_upto_region 8 with (fail)
        have hbx : Below wr.heap.size wr (wr.alloc (.cells #[.int .i64 xx, .int .i64 xy] 60)) := (Below.refl _ _).alloc (Nat.le_refl _) _
        have HV4 := Lib.hid (HV.out.next hbx)
        have HX4 := Lib.hid (Blk.new wr 60 #[.int .i64 xx, .int .i64 xy])
        clear hbx c0 c1 HV
        generalize World.alloc wr _ = w4 at *
        generalize wr.heap.size = px at *
        have o0 := HX4.out.cell 0
        have o1 := HX4.out.cell 1
        simp at o0 o1
        have HDL := Lib.hid (HCL.out ⟨xx, xy⟩ w4 HV4.out.bel)
        unfold valF at HDL
        dsimp only at HDL
        cases hz : bad ⟨xx, xy⟩ with
        | true =>
          rw [hz] at HDL
          have HD2 := Lib.hid (HS.out hz)
          clear hz
          go_wp2_with fail
          refine HDL.out.mono ?_
          rintro e w5 ⟨rfl, hb5⟩
          have HV5 := Lib.hid (HV4.out.next hb5)
          clear hb5 o0 o1
          go_wp2_with fail
          go_roundg (n - (j + 1))
          case measure => rw [HGK.out]; omega
          case rel => exact ⟨i, j + 1, dk, rfl, hlt, rfl, by go_num, HV5, HD2⟩
        | false =>
          rw [hz] at HDL
          have HD2 := Lib.hid (HK.out hz)
          clear hz
          go_wp2_with fail
          refine HDL.out.mono ?_
          rintro e w5 ⟨rfl, hb5⟩
          have HV5 := Lib.hid (HV4.out.next hb5)
          have HX5 := Lib.hid (HX4.out.belowB hb5)
          clear hb5 o0 o1 HX4 HV4
          have o0 := HX5.out.cell 0
          have o1 := HX5.out.cell 1
          simp at o0 o1
          obtain ⟨e0, e1⟩ := HV5.out.blk.cells HIK.out
          have f0 := HV5.out.blk.frozen (i*2)
          have f1 := HV5.out.blk.frozen (i*2+1)
          generalize dk[i]! = y at e0 e1
          have HV6 := Lib.hid (HV5.out.store HG.out HIK.out ⟨xx, xy⟩)
          go_wp2_with fail
          go_roundg (n - (j + 1))
          case measure => rw [HGK.out]; omega
          case rel => exact ⟨i + 1, j + 1, _, rfl, hlt, by go_num, by go_num, HV6, HD2⟩
      · obtain rfl : j = n := by omega
        obtain ⟨n2, hn2⟩ : ∃ n2, j = i + (n2 + 1) := ⟨j - i - 1, by omega⟩
        obtain ⟨vs, hcl⟩ := run_clear_ft g (i*2) n2 (cap - i) cap 0 dk wr HV.out.blk (by omega)
        have HN2 : j - i = n2 + 1 := by omega
        rw [← HN2] at hcl
        have HGL : Hid ((goodL bad D.toList).length = i ∧ ∀ q, q < (goodL bad D.toList).length → (goodL bad D.toList)[q]? = some dk[q]!) := Lib.hid (by
          have e : D.toList.take j = D.toList := by rw [← HZ.out, ← Array.length_toList]; exact List.take_length
          have h3 := HD.out.cnt
          have h5 := HD.out.low
          rw [e] at h3 h5
          exact ⟨h3, fun q hq => h5 q (by omega)⟩)
        have HC := Lib.hid (HV.out.cut HG.out (by rw [HGL.out.1, HD.out.size, HZ.out]; omega) HGL.out.2 vs)
        rw [HGL.out.1] at HC
        clear hn2 HN2
        go_wp2_with fail
        go_ret
        exact ⟨by rw [HGL.out.1]; rfl, HC.out⟩
set_option maxHeartbeats 2000000 in
/-- DeleteFunc of the empty slice -/
theorem gminusd_nil (lb : List Ft) (hl : Asc lb) (hs : lb.length ≤ 1000000) (p : Nat) (w : World) (h0 : VarB p lb w) :
    Calls Tryd.prog 56 #[.slice none 0 0, .func (.func 61) #[] #[.pointer (some ⟨p, 0, none⟩)]] w fun e w' => e = .returned (.slice none 0 0) ∧ Below w.heap.size w w' := by
  have HIX := Lib.hid (gminusi_any lb hl hs p [] none 0 0 w rfl (by omega) FactsAt.nil h0)
  have e : ixS (inB lb) [] = -1 := rfl
  rw [e] at HIX
  clear hl hs h0 e
  go_enter Tryd.func56, Tryd.ntmps56
  go_wp2_with fail
  refine HIX.out.mono ?_
  rintro e w2 ⟨rfl, hb2⟩
  have HB2 := Lib.hid hb2
  clear hb2
  go_wp2_with fail
  go_ret
  exact ⟨rfl, HB2.out⟩
set_option maxHeartbeats 4000000 in
set_option maxRecDepth 20000 in
theorem gminus_any (la lb : List Ft) (va vb : Value) (w : World) (hA : Fs va la w) (hB : Fs vb lb w) (hs : la.length ≤ 1000) (hs2 : lb.length ≤ 1000) :
    Calls Tryd.prog 24 #[va, vb] w (FsPost (goodL (inB (ofL lb)) (ofL la)) w) := by
  obtain ⟨A, ca, rfl, hca, hma, hA⟩ := hA
  obtain ⟨B, cb, rfl, hcb, hmb, hB⟩ := hB
  have HA := Lib.hid hA
  have HB := Lib.hid hB
  have HNB : Hid ((ofL lb).length ≤ 1000000) := Lib.hid (by have := ofL_len_le lb; omega)
  have HNA : Hid ((ofL la).length ≤ 1000000) := Lib.hid (by have := ofL_len_le la; omega)
  have HSL := Lib.hid (fun g W (hb : Below w.heap.size w W) (hk : Blk W g 56 #[.slice B lb.length cb]) => sorted1_any lb B lb.length cb g W rfl hs2 (((HB.out.below hb (Nat.le_refl _)).more hb.size)) hk)
  have HSA := Lib.hid (fun g W (hb : Below w.heap.size w W) (hk : Blk W g 56 #[.slice A la.length ca]) => sorted1_any la A la.length ca g W rfl hs (((HA.out.below hb (Nat.le_refl _)).more hb.size)) hk)
  clear hA hB hca hma hcb hmb hs hs2
  have HAB := Lib.hid (ofL_asc lb)
  unfold SortPost at HSL HSA
  generalize ofL lb = sb at *
  generalize ofL la = sa at *
  generalize la.length = n at *
  generalize lb.length = m at *
  clear HA HB
  go_enter Tryd.func24, Tryd.ntmps24
  go_upto_region 1 with (fail)
  have hbx : Below w.heap.size w (w.alloc (.cells #[.slice B m cb] 56)) := (Below.refl _ _).alloc (Nat.le_refl _) _
  have HB1 := Lib.hid hbx
  have HX1 := Lib.hid (Blk.new w 56 #[.slice B m cb])
  have HP : Hid (w.heap.size ≤ w.heap.size) := Lib.hid (Nat.le_refl _)
  clear hbx
  generalize World.alloc w _ = w1 at *
  obtain ⟨p, hp⟩ : ∃ p, p = w.heap.size := ⟨_, rfl⟩
  rw [← hp] at HX1
  have HPP := Lib.hid hp
  rw [← hp]
  clear hp
  have k0 := HX1.out.cell 0
  have hf0 := HX1.out.frozen 0
  simp at k0
  go_wp2_with fail
  clear k0 hf0
  have hby : Below w.heap.size w (w1.alloc (.cells #[.slice B m cb] 56)) := HB1.out.alloc HB1.out.size _
  have HX2 := Lib.hid (HX1.out.belowB ((Below.refl w1.heap.size w1).alloc (Nat.le_refl _) (.cells #[.slice B m cb] 56)))
  have HB2 := Lib.hid hby
  have HSL2 := Lib.hid (HSL.out w1.heap.size _ hby (Blk.new w1 _ _))
  clear hby HB1 HX1 HSL
  generalize w1.heap.size = q1 at *
  generalize World.alloc w1 _ = w2 at *
  refine HSL2.out.mono ?_
  rintro e w3 ⟨vb3, rfl, ho3, hb3⟩
  obtain ⟨B3, c3, rfl, hl3, hm3, hF3⟩ := ho3.facts
  have HX3 := Lib.hid (HX2.out.belowB hb3)
  have HB3 := Lib.hid (HB2.out.trans (hb3.mono HB2.out.size))
  have HF3 := Lib.hid hF3
  have k0 := HX3.out.cell 0
  have hf0 := HX3.out.frozen 0
  simp at k0
  clear ho3 hb3 hl3 hm3 hF3 HX2 HB2 HSL2
  have HV4 : Hid (Below w.heap.size w (w3.setCell ⟨p, 0, none⟩ (.slice B3 sb.length c3)) ∧ VarB p sb (w3.setCell ⟨p, 0, none⟩ (.slice B3 sb.length c3))) := Lib.hid (by
    refine ⟨HB3.out.setCell (p := ⟨p, 0, none⟩) (by have := HPP.out; show _ ≤ p; omega) _, B3, c3, by simpa using HX3.out.set_ 0 (.slice B3 sb.length c3), fun k s hs => ?_⟩
    obtain ⟨b, off, hA, hb, hc⟩ := HF3.out k s hs
    refine ⟨b, off, hA, by simpa using hb, fun j v hj => ?_⟩
    have hbp : b ≠ p := by
      rintro rfl
      have h9 := hc 0 (.int .i64 s.x) rfl
      rw [Nat.add_zero] at h9
      have h8 := HX3.out.cell (off + k * 2)
      rw [h8] at h9
      rcases Nat.eq_zero_or_pos (off + k * 2) with h7 | h7
      · rw [h7] at h9; simp at h9
      · rw [Array.getElem?_eq_none (by simp; omega)] at h9; cases h9
    rw [World.cell?_setCell_other _ _ _ _ (by intro e; first | exact hbp (congrArg Addr.block e) | exact hbp (congrArg Addr.block e).symm)]
    exact hc j v hj)
  generalize hnb : sb.length = nb at *
  have HNBL := Lib.hid hnb
  clear hnb
  go_wp2_with fail
  clear k0 hf0
  have hsz : (w3.setCell ⟨p, 0, none⟩ (.slice B3 nb c3)).heap.size = w3.heap.size := by simp
  generalize World.setCell w3 _ _ = w4 at *
  generalize w3.heap.size = q4 at *
  have HV5 := Lib.hid (And.intro (HV4.out.1.alloc HV4.out.1.size (.cells #[.slice A n ca] 56)) (HV4.out.2.next ((Below.refl w4.heap.size w4).alloc (Nat.le_refl _) (.cells #[.slice A n ca] 56))))
  have HSA2 := Lib.hid (HSA.out w4.heap.size _ HV5.out.1 (Blk.new w4 _ _))
  rw [hsz] at HSA2
  clear HV4 HSA HX3 HF3 HB3 hsz
  generalize World.alloc w4 _ = w5 at *
  refine HSA2.out.mono ?_
  rintro e w6 ⟨va6, rfl, ho6, hb6⟩
  have HB6 := Lib.hid hb6
  have HB6w := Lib.hid (HV5.out.1.trans (hb6.mono HV5.out.1.size))
  have HV6 := Lib.hid (HV5.out.2.next hb6)
  rcases ho6 with ⟨rfl, hnil⟩ | ⟨g, cap, rfl, hg, hmx, hfb⟩
  · have HNIL := Lib.hid hnil
    have HD := Lib.hid (gminusd_nil sb HAB.out (by have := HNB.out; have h2 := HNBL.out; omega) p w6 HV6.out)
    clear hnil hb6 HSA2
    go_wp2_with fail
    refine HD.out.mono ?_
    rintro e w7 ⟨rfl, hb7⟩
    have HB7 := Lib.hid (HB6w.out.trans (hb7.mono HB6w.out.size))
    clear hb7
    go_wp2_with fail
    go_ret
    exact ⟨_, rfl, ⟨none, 0, by rw [HNIL.out]; rfl, by rw [HNIL.out]; exact Nat.le_refl _, by unfold maxLen; omega, by rw [HNIL.out]; exact FactsAt.nil⟩, HB7.out⟩
  · have HD := Lib.hid (gminusd_any w5 sb HAB.out (by have := HNB.out; have h2 := HNBL.out; omega) p HV5.out.2 g cap sa.length sa.toArray w6 ⟨hb6, hfb⟩ hg (by simp) HNA.out)
    have HG := Lib.hid hg
    have HM := Lib.hid hmx
    have HW5 := Lib.hid HV5.out.1
    clear hb6 hg hmx hfb HSA2
    have hto : sa.toArray.toList = sa := by simp
    rw [hto] at HD
    generalize hnn : (goodL (inB sb) sa).length = n9 at *
    have HN9 := Lib.hid hnn
    generalize sa.length = n8 at *
    clear hnn hto
    go_wp2_with fail
    refine HD.out.mono ?_
    rintro e w7 ⟨rfl, h7⟩
    have HB7 := Lib.hid (HW5.out.trans (h7.bel.mono HW5.out.size))
    have HF7 := Lib.hid h7.blk
    clear h7
    go_wp2_with fail
    go_ret
    refine ⟨_, rfl, ⟨some ⟨g, 0, none⟩, cap, by rw [HN9.out]; rfl, ?_, HM.out, by simpa using HF7.out.factsAll⟩, HB7.out⟩
    simpa using HF7.out.le
end Go.Proofs.YtoejojfjiikogaaDoor
