/- Walk: Things (package order). -/
import Derived.Test.YtnaiflokmihmeaaObE
namespace Go.Proofs.Ytnaiflokmihmeaa
open Go.RowKit
set_option linter.unusedVariables false
set_option linter.unusedSimpArgs false

theorem run_ok {d : Wd} {ss : List Stp} (h : (runE d ss).2.2 = 0) : wErr d = 0 := by
  unfold runE at h
  split at h
  · assumption
  · exact h
theorem tu_rec {d : Wd} {s : Stp} {w w' : World} {e : Ending} (h : TuPost d s w e w') : ∃ A n c, e = .returned (.slice A n c) ∧ n = (cL d s).length ∧ IntsAt w' w'.heap.size A (cL d s) ∧ Below w.heap.size w w' ∧ ∀ ad, A = some ad → w.heap.size ≤ ad.block := by
  obtain ⟨A, c, rfl, _, _, h3, h4, h5⟩ := h
  exact ⟨A, _, c, rfl, rfl, h3, h4, h5⟩
set_option maxHeartbeats 4000000 in
set_option maxRecDepth 20000 in
theorem things_any (d : Wd) (r : Raw) (ss : List Stp) (A : Option Addr) (n c : Nat) (w : World) (hn : n = ss.length) (hm : n * 40 ≤ 140737488351232) (hc : n ≤ c) (h : WOk w r d) (hs : StepsAt w w.heap.size A ss) :
    Calls Try.prog 36 #[wv d.sl r, .slice A n c] w (ThPost d ss w) := by
  have HN := Lib.hid hn
  have HSS := Lib.hid hs
  have e1 : Below w.heap.size w (w.alloc (.cells (wcs d.sl r) 25)) := (Below.refl _ _).alloc (Nat.le_refl _) _
  have HB1 := Lib.hid e1
  have HBX := Lib.hid (Blk.new w 25 (wcs d.sl r))
  have HRU := Lib.hid (run_any d r ss A n c (w.alloc (.cells (wcs d.sl r) 25)) hn hm hc (h.next e1) (hs.next e1))
  have HST := Lib.hid (fun w2 (hb : Below (w.alloc (.cells (wcs d.sl r) 25)).heap.size (w.alloc (.cells (wcs d.sl r) 25)) w2) => ThS.start w (hb.mono e1.size) h hb)
  have HTB := Lib.hid (fun c W hb h0 h1 => th_bad (d := d) (ss := ss) (w := w) (W := W) (c := c) h1 h0 hb)
  have HDO := Lib.hid (fun D (R : Raw) s W (h9 : WOk W R D) => do_any D R s W h9)
  have HTU := Lib.hid (fun D (R : Raw) s W (h9 : WOk W R D) hc9 => touch_any D R s W h9 hc9)
  clear e1 h hs hn
  by_cases h40 : 40 < n
  · have HE : Hid (thE d ss = 2) := Lib.hid (by unfold thE; rw [if_pos (by rw [← HN.out]; exact h40)])
    obtain ⟨A1, n1, c1, A2, n2, c2, A3, n3, c3⟩ := r
    unfold wv wcs
    unfold wcs at HB1
    dsimp only at HB1 ⊢
    have q1 : (40 : Int) < (n : Int) := by omega
    go_enter Try.func36, Try.ntmps36
    go_wp2_with fail
    go_ret2
    exact HTB.out 2 _ HB1.out (by omega) HE.out
  · have q1 : ¬ ((40 : Int) < (n : Int)) := by omega
    have HE : Hid (thE d ss = (runE d ss).2.2) := Lib.hid (by unfold thE; rw [if_neg (by rw [← HN.out]; exact h40)])
    unfold RunPost at HRU
    generalize hre : (runE d ss).2.2 = ec at *
    generalize (runE d ss).2.1 = jr at *
    generalize (runE d ss).1 = DR at *
    have HRE := Lib.hid hre
    clear hre
    obtain ⟨A1, n1, c1, A2, n2, c2, A3, n3, c3⟩ := r
    unfold wv wcs
    unfold wv wcs at HRU HDO
    unfold wcs at HB1 HBX HST
    unfold sv at HDO
    dsimp only at HRU HB1 HBX HST ⊢
    generalize hsl : d.sl = sl at *
    go_enter Try.func36, Try.ntmps36
    go_upto_region 3 with (fail)
    generalize World.alloc w _ = w1 at *
    have k0 := HBX.out.cell 0
    have k1 := HBX.out.cell 1
    have k2 := HBX.out.cell 2
    have k3 := HBX.out.cell 3
    simp at k0 k1 k2 k3
    go_wp2_with fail
    refine HRU.out.mono ?_
    rintro e w2 ⟨⟨B1, m1, e1, B2, m2, e2, B3, m3, e3⟩, rfl, _, hb2⟩
    have hbx : Below w2.heap.size w2 (w2.alloc (.cells #[.int .i64 DR.sl, .slice B1 m1 e1, .slice B2 m2 e2, .slice B3 m3 e3] 25)) := (Below.refl _ _).alloc (Nat.le_refl _) _
    have HB3 := Lib.hid (hb2.trans (hbx.mono hb2.size))
    have HB4 := Lib.hid (HB1.out.trans (HB3.out.mono HB1.out.size))
    clear hbx hb2 k0 k1 k2 k3 HRU
    dsimp only
    by_cases hec : ec = 0
    · subst hec
      have HW0 : Hid (Thj d ss 0 d) := Lib.hid (Thj.start (run_ok HRE.out) HRE.out)
      go_upto_region 7 with (fail)
      have HF := Lib.hid (HST.out _ HB3.out)
      clear HST HB3 HB4 HB1 HBX
      generalize World.alloc w2 _ = w3 at *
      go_wp2_with fail
      go_loopg [9, 27] n (fun kx o i wr => ∃ (j : Nat) (dj : Wd) (rj : Raw) (VA : Option Addr) (vc vn : Nat) (rows : List Row), kx = n - j ∧ j ≤ n ∧ i = .int .i64 (j : Int) ∧ o = .slice VA vn vc ∧ Hid (ThS w dj rj (.slice VA vn vc) rows wr) ∧ Hid (Thj d ss j dj) ∧ Hid (Od.ll rows = (thL d ss).take j) ∧ Hid (vn = rows.length ∧ rows.length = j))
      case atStart => exact ⟨0, d, _, none, 0, 0, [], by omega, Nat.zero_le _, rfl, rfl, HF, HW0, Lib.hid (by simp [Od.ll]), Lib.hid ⟨rfl, rfl⟩⟩
      case round =>
        clear HF HW0
        obtain ⟨j, dj, rj, VA, vc, vn, rows, hgk, hj, rfl, rfl, HF, HT, HR, HL⟩ := hrel
        have HGK := Lib.hid hgk; clear hgk
        by_cases hlt : j < n
        · obtain ⟨s, hsj⟩ := get_of_lt HN.out hlt
          have HSJ := Lib.hid hsj
          obtain ⟨b, off, rfl, hb, c0, c1', c2', c3', c4⟩ := (HSS.out.next HF.out.bel).five hsj
          have HCA := Lib.hid (HT.out.can hsj)
          have HNX := Lib.hid (HT.out.next hsj)
          clear hsj hb
          obtain ⟨sk, sa, sp, sq, st⟩ := s
          dsimp only at c0 c1' c2' c3' c4
          have i1 : (0 : Int) ≤ (j : Int) := by omega
          have i2 : (j : Int) < (n : Int) := by omega
          go_upto_region 10 with (fail)
          have hbs : Below wr.heap.size wr (wr.alloc (.cells #[.int .i64 sk, .int .i64 sa, .int .i64 sp, .int .i64 sq, .int .i64 st] 39)) := (Below.refl _ _).alloc (Nat.le_refl _) _
          have HX1 := Lib.hid (Blk.new wr 39 #[.int .i64 sk, .int .i64 sa, .int .i64 sp, .int .i64 sq, .int .i64 st])
          have HF1 := Lib.hid (HF.out.next hbs)
          clear hbs c0 c1' c2' c3' c4 HF
          generalize World.alloc wr _ = w4 at *
          generalize wr.heap.size = px at *
          have HTU2 := Lib.hid (HTU.out dj rj ⟨sk, sa, sp, sq, st⟩ w4 HF1.out.ok HCA.out)
          have HDO2 := Lib.hid (fun W (h9 : WOk W rj dj) => HDO.out dj rj ⟨sk, sa, sp, sq, st⟩ W h9)
          obtain ⟨D1, p1, f1, D2, p2, f2, D3, p3, f3⟩ := rj
          unfold wv sv wcs at HTU2
          unfold DoPost wv wcs at HDO2
          dsimp only at HTU2 HDO2
          obtain ⟨k0, k1, k2, k3⟩ := HF1.out.four
          dsimp only at k0 k1 k2 k3
          have g0 := HX1.out.cell 0
          have g1 := HX1.out.cell 1
          have g2 := HX1.out.cell 2
          have g3 := HX1.out.cell 3
          have g4 := HX1.out.cell 4
          simp at g0 g1 g2 g3 g4
          go_wp2_with fail
          refine HTU2.out.mono ?_
          intro e w5 ht5
          obtain ⟨A5, n5, c5, rfl, h51, h52, h53, h54⟩ := tu_rec ht5
          have HF5 := Lib.hid (HF1.out.next h53)
          have HX5 := Lib.hid (HX1.out.belowB h53)
          have HI5 := Lib.hid (ints_o HF1.out h52 h54)
          have HL5 : Hid (n5 = (cL dj ⟨sk, sa, sp, sq, st⟩).length) := Lib.hid h51
          clear ht5 h51 h52 h53 h54 HTU2 HF1 HX1 k0 k1 k2 k3 g0 g1 g2 g3 g4
          have HLE : Hid ((cL dj ⟨sk, sa, sp, sq, st⟩).length ≤ 64) := Lib.hid (cL_len _ _)
          have HLR : Hid (vn = rows.length ∧ rows.length ≤ 1000) := Lib.hid ⟨HL.out.1, by have h1 := HL.out.2; omega⟩
          have hvn := HL.out.1
          subst hvn
          generalize hcl : cL dj ⟨sk, sa, sp, sq, st⟩ = xs at *
          have hn5 := HL5.out
          subst hn5
          go_upto_region 11 with (at_builtin; refine wpList_append_rows (r0 := ⟨A5, c5, xs⟩) rfl _ _ rfl HF5.out HI5.out HLE.out rfl rfl HLR.out.2 ?_; intro A6 c6 w6 hF6 hK6)
          have HF6 := Lib.hid hF6
          have HX6 := Lib.hid (hK6 HX5.out (by decide))
          clear hF6 hK6 HF5 HX5 HI5
          obtain ⟨k0, k1, k2, k3⟩ := HF6.out.four
          dsimp only at k0 k1 k2 k3
          have g0 := HX6.out.cell 0
          have g1 := HX6.out.cell 1
          have g2 := HX6.out.cell 2
          have g3 := HX6.out.cell 3
          have g4 := HX6.out.cell 4
          simp at g0 g1 g2 g3 g4
          go_wp2_with fail
          refine (HDO2.out _ HF6.out.ok).mono ?_
          rintro e w7 ⟨⟨B1', q1', e1', B2', q2', e2', B3', q3', e3'⟩, rfl, ⟨ho7, hf7⟩, hb7⟩
          have hdn : doN dj ⟨sk, sa, sp, sq, st⟩ = stepN dj ⟨sk, sa, sp, sq, st⟩ := by unfold doN; rw [if_pos HCA.out]
          rw [hdn] at ho7 ⊢
          have HF7 := Lib.hid (HF6.out.next hb7)
          have hw6 : w.heap.size < w6.heap.size := HF6.out.one.lt
          have HM := Lib.hid (HF7.out.move ho7 hf7 hw6 (fun k hk => (HF6.out.row.lt k hk).2))
          unfold put4 at HM
          clear ho7 hf7 hb7 hw6 hdn k0 k1 k2 k3 g0 g1 g2 g3 g4 HDO2
          obtain ⟨k0, k1, k2, k3⟩ := HF7.out.four
          obtain ⟨z0, z1, z2, z3⟩ := HF7.out.froz
          dsimp only at k0 k1 k2 k3 HM ⊢
          go_wp2_with fail
          clear k0 k1 k2 k3 z0 z1 z2 z3
          go_roundg (n - (j + 1))
          case measure => rw [HGK.out]; omega
          case rel => exact ⟨j + 1, _, _, _, _, _, _, rfl, by omega, by go_num, rfl, HM, Lib.hid HNX.out.1, Lib.hid (by rw [HNX.out.2, ← HR.out]; simp [Od.ll]), Lib.hid ⟨by simp, by rw [List.length_append, HL.out.2]; rfl⟩⟩
        · obtain rfl : j = n := by omega
          have HFIN := Lib.hid (th_ok (by rw [HE.out]) HF.out (by rw [HR.out, HN.out]))
          go_wp2_with fail
          go_ret2
          exact HFIN.out
    · have hne : (ec != 0) = true := by simp [hec]
      go_wp2_with fail
      go_ret2
      exact HTB.out ec _ HB4.out hec HE.out
end Go.Proofs.Ytnaiflokmihmeaa
