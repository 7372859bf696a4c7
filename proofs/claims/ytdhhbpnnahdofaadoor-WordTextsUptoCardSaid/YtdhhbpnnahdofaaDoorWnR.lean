/- Walk: Text (package word). -/
import Derived.Test.YtdhhbpnnahdofaaDoorWnQ

namespace Go.Proofs.YtdhhbpnnahdofaaDoor
open Go.RowKit
set_option linter.unusedVariables false
set_option linter.unusedSimpArgs false

theorem textR_bad {ss : List Wz} (h : okW ss = false) : textR ss = (ByteArray.empty, 3) := by unfold textR; rw [if_pos h]
theorem textR_long {ss : List Wz} (h : okW ss = true) (hl : 4096 < (jl (txs ss)).length) : textR ss = (ByteArray.empty, 2) := by unfold textR; rw [if_neg (by rw [h]; simp), if_pos hl]
theorem textR_ok {ss : List Wz} (h : okW ss = true) (hl : (jl (txs ss)).length ≤ 4096) : textR ss = (⟨(jl (txs ss)).toArray⟩, 0) := by unfold textR; rw [if_neg (by rw [h]; simp), if_neg (by omega)]
theorem infoZ : (Tryd.prog.info? 9).map (fun i => (i.zero, i.size, i.bytes)) = some (some (.string ByteArray.empty), 1, 16) := by kernel_rfl
theorem one_s (x : ByteArray) : ∀ u ∈ (#[.string x] : Array Value).toList, u.oneCell' = true := by
  intro u hu; simp at hu; subst hu; rfl
set_option maxHeartbeats 4000000 in
set_option maxRecDepth 20000 in
theorem text_any (ss : List Wz) (A : Option Addr) (n c : Nat) (w : World) (hn : n = ss.length) (hz : szAll ss ≤ 1048576) (hl : n ≤ 1048576) (hM : MaxL w) (h : ZAt w w.heap.size A ss) :
    Calls Tryd.prog 9 #[.slice A n c] w fun e w' => e = .returned (.tuple #[.string (textR ss).1, .int .i64 ((textR ss).2 : Int)]) ∧ Below w.heap.size w w' := by
  have HN := Lib.hid hn; clear hn
  have HZ := Lib.hid hz; clear hz
  have HM := Lib.hid hM; clear hM
  have H := Lib.hid h; clear h
  go_enter Tryd.func9, Tryd.ntmps9
  go_wp2_with fail
  go_loopg [4, 10] n (fun kx o i wr => ∃ j : Nat, kx = n - j ∧ j ≤ n ∧ i = .int .i64 j ∧ Hid (SRow w o (txs (ss.take j)) wr) ∧ Hid (okW (ss.take j) = true))
  case atStart => exact ⟨0, by omega, Nat.zero_le _, rfl, SRow.nil (Below.refl _ _), Lib.hid rfl⟩
  case round =>
    obtain ⟨j, hgk, hj, rfl, hrow, hok⟩ := hrel
    have HGK := Lib.hid hgk; clear hgk
    by_cases hlt : j < n
    · obtain ⟨⟨wk, wa, wb⟩, hu⟩ : ∃ u, ss[j]? = some u := ⟨_, List.getElem?_eq_getElem (by have := HN.out; omega)⟩
      obtain ⟨b, off, rfl, hb, h0, h1, h2⟩ := H.out.three hu
      have g0 := (hrow.out.bel.cell (p := ⟨b, off + j*3, none⟩) hb).trans h0
      have g1 := (hrow.out.bel.cell (p := ⟨b, off + j*3+1, none⟩) hb).trans h1
      have g2 := (hrow.out.bel.cell (p := ⟨b, off + j*3+2, none⟩) hb).trans h2
      dsimp only at g0 g1 g2
      clear h0 h1 h2
      have HSZ := Lib.hid (show wb.size ≤ 1048576 from by have := szAll_mem hu; have := HZ.out; dsimp only at *; omega)
      have HOK := Lib.hid (okW_take hu)
      have HTX := Lib.hid (txs_add hu)
      dsimp only at HOK HTX
      have HNO := Lib.hid (fun hv => okW_no hu hv)
      dsimp only at HNO
      have HV := Lib.hid (fun w h => valid_any wk wa wb w HSZ.out h)
      obtain ⟨z, hz⟩ : ∃ z, validB wk wb = z := ⟨_, rfl⟩
      rw [hz] at HV HOK HNO
      rw [hok.out, Bool.true_and] at HOK
      clear hu hz hok
      have i1 : (0 : Int) ≤ (j : Int) := by omega
      have i2 : (j : Int) < (n : Int) := by omega
      go_upto_region 5 with (fail)
      have HB3 := Lib.hid (Blk.new wr 27 #[.int .i64 wk, .int .i64 wa, .string wb])
      have HR3 := Lib.hid (hrow.out.next ((Below.refl _ _).alloc (Nat.le_refl _) (.cells #[.int .i64 wk, .int .i64 wa, .string wb] 27)))
      have HM3 := Lib.hid (HM.out.below HR3.out.bel)
      clear hrow g0 g1 g2
      generalize wr.heap.size = g at *
      generalize hw3 : World.alloc wr _ = w3 at *
      clear hw3
      have k0 := HB3.out.cell 0
      have k1 := HB3.out.cell 1
      have k2 := HB3.out.cell 2
      simp at k0 k1 k2
      cases z with
      | false =>
        have HT := Lib.hid (textR_bad (HNO.out rfl))
        go_wp2_with (go_at_call 11; refine (HV.out _ HM3.out).mono ?_; rintro e w4 ⟨rfl, hb4⟩; have HB4 := Lib.hid hb4; clear hb4)
        go_ret2
        exact ⟨by rw [HT.out]; rfl, HR3.out.bel.trans (HB4.out.mono HR3.out.bel.size)⟩
      | true =>
        go_upto_region 7 with (go_at_call 11; refine (HV.out _ HM3.out).mono ?_; rintro e w4 ⟨rfl, hb4⟩; have HB4 := Lib.hid hb4; clear hb4)
        have HR4 := Lib.hid (HR3.out.next HB4.out)
        have HK4 := Lib.hid (HB3.out.belowB HB4.out)
        clear k0 k1 k2 HR3 HB3 HB4
        have k2 := HK4.out.cell 2
        simp at k2
        have hnm5 : (txs (ss.take j)).length ≤ 1048576 := by rw [txs_len, List.length_take]; omega
        generalize hxs : txs (ss.take j) = xs at *
        generalize hn5 : xs.length = n5 at *
        have HN5 := Lib.hid hn5; clear hn5 hxs
        have hnm : n5 + 1 ≤ 4294967296 := by omega
        go_wp2_with (
          at_builtin
          refine wpList_append_one rfl (.tmp 17) (.tmp 20) _ rfl Tryd.underlying102 infoZ rfl rfl (HR4.out.row HN5.out) rfl rfl rfl (one_s wb) hnm ?_
          intro v' w5 hR5 hb5
          have HR5 := Lib.hid (SRow.add (x := wb) HN5.out hR5)
          clear hR5 hb5)
        go_roundg (n - (j + 1))
        case measure => rw [HGK.out]; omega
        case rel => exact ⟨j + 1, rfl, by omega, by go_num, by rw [HTX.out]; exact HR5, HOK⟩
    · obtain rfl : j = n := by omega
      have htk : ss.take j = ss := by rw [HN.out, List.take_length]
      rw [htk] at hrow hok
      have HJ : Hid (∃ s : ByteArray, s.size = (jl (txs ss)).length ∧ s = ⟨(jl (txs ss)).toArray⟩ ∧ Calls Tryd.prog 63 #[u4, .string ⟨#[32]⟩] wr fun e w' => e = .returned (.string s) ∧ Below wr.heap.size wr w') := by
        refine ⟨_, ?_, rfl, ?_⟩
        · show (jl (txs ss)).toArray.size = _
          simp
        · rcases hrow.out.slice with ⟨rfl, hx⟩ | ⟨g, c', rfl, h1, h2, h3, h4⟩
          · rw [hx]
            exact (Tryd.strings_Join_none none 0 ⟨#[32]⟩ wr).mono fun e w' ⟨he, hw⟩ => ⟨he, hw ▸ Below.refl _ _⟩
          · have h5 := jl_len (txs ss)
            rw [txs_len, txs_bytes] at h5
            have h6 := HZ.out
            have h7 := HN.out
            exact Tryd.strings_Join g 0 c' (txs ss) ⟨#[32]⟩ wr h4 h3 (by rw [txs_len]; omega) h1 (by show (jl (txs ss)).length ≤ _; omega)
      obtain ⟨s, hs1, hs2, hs3⟩ := HJ.out
      have HSC := Lib.hid hs3
      have HS2 := Lib.hid hs2
      have HS1 := Lib.hid hs1
      have HBE := Lib.hid hrow.out.bel
      have HOK := hok
      clear hs1 hs2 hs3 hrow HJ htk hok
      rcases Nat.lt_or_ge 4096 s.size with hb | hb
      · have HT := Lib.hid (textR_long HOK.out (by rw [← HS1.out]; exact hb))
        have hb' : (4096 : Int) < (s.size : Int) := by omega
        go_wp2_with (go_at_call 63; refine HSC.out.mono ?_; rintro e w4 ⟨rfl, hb4⟩; have HB4 := Lib.hid hb4; clear hb4)
        go_ret2
        exact ⟨by rw [HT.out]; rfl, HBE.out.trans (HB4.out.mono HBE.out.size)⟩
      · have HT := Lib.hid (textR_ok HOK.out (by rw [← HS1.out]; exact hb))
        have hb' : ¬ (4096 : Int) < (s.size : Int) := by omega
        go_wp2_with (go_at_call 63; refine HSC.out.mono ?_; rintro e w4 ⟨rfl, hb4⟩; have HB4 := Lib.hid hb4; clear hb4)
        go_ret2
        exact ⟨by rw [HT.out, ← HS2.out]; rfl, HBE.out.trans (HB4.out.mono HBE.out.size)⟩
end Go.Proofs.YtdhhbpnnahdofaaDoor
