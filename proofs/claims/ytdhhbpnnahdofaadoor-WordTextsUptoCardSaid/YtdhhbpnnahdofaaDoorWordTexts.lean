/- The law WordTexts: Valid and Text against the document. -/
import Derived.Test.YtdhhbpnnahdofaaDoorWnR
import Derived.Test.YtdhhbpnnahdofaaDoorRows
import Derived.ChangeMaps5

namespace Go.Proofs.YtdhhbpnnahdofaaDoor
open Go.RowKit Go.ChangeShapes Go.WideShapes Go.Deep
set_option linter.unusedVariables false
set_option linter.unusedSimpArgs false

def fOf (b : Bool) : Nat := if b then 0 else 3
theorem data_eq {a b : ByteArray} (h : a.data.toList = b.data.toList) : a = b := by
  cases a; cases b
  simp only [ByteArray.mk.injEq]
  exact Array.toList_inj.1 h
theorem app_data (a b : ByteArray) : (a ++ b).data.toList = a.data.toList ++ b.data.toList := by simp
set_option maxHeartbeats 8000000 in
set_option maxRecDepth 20000 in
theorem wordTexts_main (ss : List Wz) (A : Option Addr) (n c : Nat) (W : World) (hn : n = ss.length) (hz : szAll ss ≤ 1048576) (hl : n ≤ 1048576) (hM : MaxL W) (h : ZAt W W.heap.size A ss) :
    Calls Tryd.prog 3 #[.slice A n c] W fun e W' => e = .returned (.bool true) ∧ Below W.heap.size W W' := by
  have HT0 := text_any ss A n c W hn hz hl hM h
  obtain ⟨⟨S1, E1⟩, hTR⟩ : ∃ R, textR ss = R := ⟨_, rfl⟩
  rw [hTR] at HT0
  dsimp only at HT0
  have HTR := Lib.hid hTR
  have HTX0 := Lib.hid HT0
  have HN := Lib.hid hn
  have HZ := Lib.hid hz
  have HM0 := Lib.hid hM
  have H0 := Lib.hid h
  have HWD := Lib.hid (fun w (h : MaxL w) => worded_any w h)
  clear HT0 hn hz hM h hTR
  go_enter Tryd.func3, Tryd.ntmps3
  go_upto_region 2 with (go_at_call 9; refine HTX0.out.mono ?_; rintro e w1 ⟨rfl, hb1⟩; have HB1 := Lib.hid hb1; clear hb1)
  have H1 := Lib.hid (H0.out.next HB1.out)
  have HM1 := Lib.hid (HM0.out.below HB1.out)
  clear H0 HM0 HTX0
  go_wp2_with fail
  go_loopg [5, 6, 17] n (fun kx t f i wr => ∃ (j : Nat) (T : ByteArray) (fz : Nat), kx = n - j ∧ j ≤ n ∧ i = .int .i64 j ∧ t = .string T ∧ f = .int .i64 fz ∧ Hid (Below w1.heap.size w1 wr) ∧ Hid (T.data.toList = jl (txs (ss.take j)) ∧ fz = fOf (okW (ss.take j))))
  case atStart => exact ⟨0, ByteArray.empty, 0, by omega, Nat.zero_le _, rfl, rfl, rfl, Below.refl _ _, Lib.hid ⟨rfl, rfl⟩⟩
  case round =>
    obtain ⟨j, T, fz, hgk, hj, rfl, rfl, rfl, hbe, hst⟩ := hrel
    have HGK := Lib.hid hgk; clear hgk
    have HTS := Lib.hid (show T.size ≤ 2097152 from by
      have h1 := jl_len (txs (ss.take j))
      rw [← hst.out.1, data_len, txs_len, txs_bytes, List.length_take] at h1
      have h2 : szAll (ss.take j) ≤ szAll ss := by
        conv => rhs; rw [← List.take_append_drop j ss]
        rw [szAll_append]; omega
      have := HZ.out
      omega)
    by_cases hlt : j < n
    · obtain ⟨⟨wk, wa, wb⟩, hu⟩ : ∃ u, ss[j]? = some u := ⟨_, List.getElem?_eq_getElem (by have := HN.out; omega)⟩
      obtain ⟨b, off, rfl, hb, h0, h1, h2⟩ := H1.out.three hu
      have g0 := (hbe.out.cell (p := ⟨b, off + j*3, none⟩) hb).trans h0
      have g1 := (hbe.out.cell (p := ⟨b, off + j*3+1, none⟩) hb).trans h1
      have g2 := (hbe.out.cell (p := ⟨b, off + j*3+2, none⟩) hb).trans h2
      dsimp only at g0 g1 g2
      clear h0 h1 h2
      have HSZ := Lib.hid (show wb.size ≤ 1048576 from by have := szAll_mem hu; have := HZ.out; dsimp only at *; omega)
      have HOK := Lib.hid (okW_take hu)
      have HTX := Lib.hid (txs_add hu)
      have HJN := Lib.hid (jl_add (txs (ss.take j)) wb)
      have HNI := Lib.hid (txs_take_nil (ss := ss) (j := j) (by have := HN.out; omega))
      dsimp only at HOK HTX
      have HV := Lib.hid (fun w h => valid_any wk wa wb w HSZ.out h)
      have HU := Lib.hid (fun w h => wordValid_any wk wa wb w HSZ.out h)
      obtain ⟨z, hz⟩ : ∃ z, validB wk wb = z := ⟨_, rfl⟩
      rw [hz] at HV HOK HU
      clear hu hz
      have i1 : (0 : Int) ≤ (j : Int) := by omega
      have i2 : (j : Int) < (n : Int) := by omega
      go_upto_region 7 with (fail)
      have HB3 := Lib.hid (Blk.new wr 27 #[.int .i64 wk, .int .i64 wa, .string wb])
      have HE3 := Lib.hid (hbe.out.trans (((Below.refl wr.heap.size wr).alloc (Nat.le_refl _) (.cells #[.int .i64 wk, .int .i64 wa, .string wb] 27)).mono hbe.out.size))
      have HM3 := Lib.hid (HM1.out.below HE3.out)
      clear hbe g0 g1 g2
      generalize wr.heap.size = g at *
      generalize hw3 : World.alloc wr _ = w3 at *
      clear hw3
      have k0 := HB3.out.cell 0
      have k1 := HB3.out.cell 1
      have k2 := HB3.out.cell 2
      simp at k0 k1 k2
      go_upto_region 8 with (go_at_call 10; refine (HU.out _ HM3.out).mono ?_; rintro e w4 ⟨rfl, hb4⟩; have HB4 := Lib.hid hb4; clear hb4)
      have HE4 := Lib.hid (HE3.out.trans (HB4.out.mono HE3.out.size))
      have HM4 := Lib.hid (HM3.out.below HB4.out)
      have HK4 := Lib.hid (HB3.out.belowB HB4.out)
      clear k0 k1 k2 HE3 HM3 HB3 HB4
      have k0 := HK4.out.cell 0
      have k1 := HK4.out.cell 1
      have k2 := HK4.out.cell 2
      simp at k0 k1 k2
      go_upto_region 10 with (go_at_call 11; refine (HV.out _ HM4.out).mono ?_; rintro e w5 ⟨rfl, hb5⟩; have HB5 := Lib.hid hb5; clear hb5)
      have HE5 := Lib.hid (HE4.out.trans (HB5.out.mono HE4.out.size))
      have HK5 := Lib.hid (HK4.out.belowB HB5.out)
      clear k0 k1 k2 HE4 HM4 HK4 HB5
      have k2 := HK5.out.cell 2
      simp at k2
      obtain ⟨hT, hf⟩ := hst.out
      clear hst
      generalize okW (ss.take j) = q at *
      have HT := Lib.hid hT
      have HQ := HOK
      clear HOK hT
      have hts := HTS.out
      have hsz := HSZ.out
      rcases Nat.eq_zero_or_pos j with hj0 | hj0
      · have HJ := Lib.hid (show jl (txs (ss.take (j + 1))) = wb.data.toList from by rw [HTX.out, HJN.out, if_pos (HNI.out.2 hj0)])
        have HT2 := Lib.hid (show T = ByteArray.empty from data_eq (by rw [HT.out, HNI.out.2 hj0]; rfl))
        have hj0' : ¬ (0 : Int) < (j : Int) := by omega
        cases q <;> cases z
        all_goals
          subst hf
          unfold fOf
          go_wp2_with fail
          go_roundg (n - (j + 1))
          case measure => rw [HGK.out]; omega
          case rel => exact ⟨j + 1, T ++ wb, _, rfl, by omega, by go_num, rfl, rfl, HE5.out, Lib.hid ⟨by rw [HJ.out, HT2.out]; simp, by rw [HQ.out]; rfl⟩⟩
      · have HJ := Lib.hid (show jl (txs (ss.take (j + 1))) = T.data.toList ++ [32] ++ wb.data.toList from by rw [HTX.out, HJN.out, if_neg (fun h => by have := HNI.out.1 h; omega), HT.out])
        have hj0' : (0 : Int) < (j : Int) := by omega
        cases q <;> cases z
        all_goals
          subst hf
          unfold fOf
          go_wp2_with fail
          go_roundg (n - (j + 1))
          case measure => rw [HGK.out]; omega
          case rel => exact ⟨j + 1, T ++ ⟨#[32]⟩ ++ wb, _, rfl, by omega, by go_num, rfl, rfl, HE5.out, Lib.hid ⟨by rw [HJ.out]; simp, by rw [HQ.out]; rfl⟩⟩
    · obtain rfl : j = n := by omega
      have htk : ss.take j = ss := by rw [HN.out, List.take_length]
      rw [htk] at hst
      obtain ⟨hT, hf⟩ := hst.out
      clear hst htk
      have hlen : (jl (txs ss)).length = T.size := by rw [← hT]; exact data_len T
      have hTs : (⟨(jl (txs ss)).toArray⟩ : ByteArray) = T := data_eq (by rw [hT])
      have HB := Lib.hid (HB1.out.trans (hbe.out.mono HB1.out.size))
      have HM2 := Lib.hid (HM1.out.below hbe.out)
      clear hbe hT
      cases hq : okW ss with
      | false =>
        have h1 := HTR.out.symm.trans (textR_bad hq)
        simp only [Prod.mk.injEq] at h1
        obtain ⟨rfl, rfl⟩ := h1
        rw [hq] at hf
        subst hf
        unfold fOf
        clear hq hlen hTs HTR
        go_wp2_with (go_at_call 12; refine (HWD.out _ HM2.out).mono ?_; rintro e w5 ⟨rfl, hb5⟩; have HB5 := Lib.hid hb5; clear hb5)
        go_ret
        exact ⟨rfl, HB.out.trans (HB5.out.mono HB.out.size)⟩
      | true =>
        rw [hq] at hf
        subst hf
        unfold fOf
        rcases Nat.lt_or_ge 4096 T.size with hb | hb
        · have h1 := HTR.out.symm.trans (textR_long hq (by rw [hlen]; exact hb))
          simp only [Prod.mk.injEq] at h1
          obtain ⟨rfl, rfl⟩ := h1
          have hb' : (4096 : Int) < (T.size : Int) := by omega
          clear hq hlen hTs HTR hb
          go_wp2_with (go_at_call 12; refine (HWD.out _ HM2.out).mono ?_; rintro e w5 ⟨rfl, hb5⟩; have HB5 := Lib.hid hb5; clear hb5)
          go_ret
          exact ⟨rfl, HB.out.trans (HB5.out.mono HB.out.size)⟩
        · have h1 := HTR.out.symm.trans (textR_ok hq (by rw [hlen]; exact hb))
          rw [hTs] at h1
          simp only [Prod.mk.injEq] at h1
          obtain ⟨rfl, rfl⟩ := h1
          have hb' : ¬ (4096 : Int) < (S1.size : Int) := by omega
          clear hq hlen hTs HTR hb
          go_wp2_with (go_at_call 12; refine (HWD.out _ HM2.out).mono ?_; rintro e w5 ⟨rfl, hb5⟩; have HB5 := Lib.hid hb5; clear hb5)
          go_ret
          exact ⟨rfl, HB.out.trans (HB5.out.mono HB.out.size)⟩

set_option maxRecDepth 20000 in
theorem wordTexts_walk {H : Type} {enc : TypeId × Value → H} (W : World) (v0 : Value) {d0 : DataW H} {p0 : List MemPlace} {base : Nat}
    (h0 : DataW.Trod enc Tryd.prog W 0 (fun _ => true) true 22 v0 d0 p0)
    (o0 : Value.okWide Tryd.prog W .any base 22 v0)
    (w0 : Light Tryd.prog 22 d0) (hk : Rows.uptoBulkAll [d0] ≤ 1048576) (hS : W.ShapedOpen Tryd.prog) :
    Calls Tryd.prog 3 #[v0] W fun e W' => e = .returned (.bool true) ∧ Below W.heap.size W W' := by
  obtain ⟨A, c, ss, rfl, q1, q2, q3, q4⟩ := open_words h0 o0
  have hb : Rows.uptoBulk d0 ≤ 1048576 := Nat.le_trans (bulk_mem List.mem_cons_self) hk
  have a0 : szAll ss ≤ Rows.uptoBulk d0 := Nat.le_trans (Nat.le_succ _) q3
  have a1 : ss.length ≤ Rows.uptoBulk d0 := Nat.le_trans q1 (Nat.le_trans (Nat.le_succ c) q2)
  have a2 : szAll ss ≤ 1048576 := Nat.le_trans a0 hb
  have a3 : ss.length ≤ 1048576 := Nat.le_trans a1 hb
  exact wordTexts_main ss A _ c W rfl a2 a3 (maxL_of hS) q4
end Go.Proofs.YtdhhbpnnahdofaaDoor
