/- Walks: Pick (package order). -/
import Derived.Test.YtogjfmgecnoceaaOrdI
import Derived.Test.YtogjfmgecnoceaaOrdJ
import Derived.Test.YtogjfmgecnoceaaOrdE
import Derived.Test.YtogjfmgecnoceaaGrowB
import Derived.Deep.RegionHeld3
import Derived.Deep.DeepCutAuto
import Derived.Deep.RegionLaw
namespace Go.Proofs.Ytogjfmgecnoceaa
open Go.RowKit
set_option linter.unusedVariables false
set_option linter.unusedSimpArgs false

/-- what has been picked, in the variable p; further rows -/
structure PkS (w : World) (B0 p : Nat) (v : Value) (done : List Int) (rest : List Rw) (wr : World) : Prop where
  blk : Blk wr p 23 #[v]
  rows : RwsB B0 (⟨v, 3, 1, done.length, cellsI done⟩ :: rest) wr
  size : B0 ≤ wr.heap.size
  bel : Below w.heap.size w wr
section
variable {w wr w' : World} {B0 p : Nat} {v : Value} {done : List Int} {rest : List Rw}
theorem PkS.slice (h : PkS w B0 p v done rest wr) : ∃ A c, v = .slice A done.length c ∧ done.length ≤ c ∧ c ≤ maxLen ∧ IntsAt wr wr.heap.size A done := IntsAt.of_own (h.rows.own _ List.mem_cons_self)
theorem PkS.var (h : PkS w B0 p v done rest wr) : VarI wr p done := by
  obtain ⟨A, c, rfl, h1, h2, h3⟩ := h.slice
  exact ⟨A, c, h.blk.cell 0, by unfold maxLen at h2; omega, h3⟩
theorem PkS.cell (h : PkS w B0 p v done rest wr) : wr.cell? ⟨p, 0, none⟩ = some v := h.blk.cell 0
theorem PkS.nil (h : PkS w B0 p v done [] wr) : PkS w B0 p v done [⟨.slice none 0 0, 3, 1, 0, []⟩] wr := by
  refine ⟨h.blk, ⟨fun r hr => ?_, ?_⟩, h.size, h.bel⟩
  · rcases List.mem_cons.1 hr with rfl | hr
    · exact h.rows.own _ List.mem_cons_self
    · rw [List.mem_singleton.1 hr]; exact ⟨by simp, .inl ⟨rfl, rfl⟩⟩
  · refine List.pairwise_cons.2 ⟨fun q hq => ?_, List.pairwise_singleton _ _⟩
    rw [List.mem_singleton.1 hq]
    exact own_apart_symm (.inl rfl)
theorem PkS.drop {r : Rw} (h : PkS w B0 p v done [r] wr) : PkS w B0 p v done [] wr :=
  ⟨h.blk, ⟨fun q hq => h.rows.own q (by rw [List.mem_singleton.1 hq]; exact List.mem_cons_self), List.pairwise_singleton _ _⟩, h.size, h.bel⟩
theorem PkS.add {v' : Value} {ys : List Int} {x : Int} {m : Nat} {u : Value} (h : PkS w B0 p v done [⟨u, 3, 1, m, cellsI ys⟩] wr) (hm : ys.length = m) (hp : p < B0) (hw : w.heap.size ≤ B0)
    (hR : RwsB B0 ((⟨v, 3, 1, done.length, cellsI done⟩ :: [⟨u, 3, 1, m, cellsI ys⟩]).set 1 ⟨v', 3, 1, m + 1, cellsI ys ++ (#[.int .i64 x] : Array Value).toList⟩) w') (hk : ∀ k, k < B0 → w'.heap[k]? = wr.heap[k]?) (hb : Below B0 wr w') :
    PkS w B0 p v done [⟨v', 3, 1, m + 1, cellsI (ys ++ [x])⟩] w' := by
  have e : cellsI (ys ++ [x]) = cellsI ys ++ [.int .i64 x] := by simp [cellsI]
  rw [e]
  exact ⟨(hk p hp).trans h.blk, hR, Nat.le_trans h.size hb.size, h.bel.trans (hb.mono hw)⟩
end
theorem PkS.ready {w wr : World} {B0 p m : Nat} {v u : Value} {done ys : List Int} (h : PkS w B0 p v done [⟨u, 3, 1, m, cellsI ys⟩] wr) (hm : ys.length = m) : ∃ A c, u = .slice A m c ∧ m ≤ c ∧ c ≤ maxLen ∧ IntsAt wr wr.heap.size A ys := by
  subst hm
  exact IntsAt.of_own (h.rows.own _ (List.mem_cons_of_mem _ List.mem_cons_self))
/-- one more has been picked -/
theorem PkS.picked {w wr w0 w' : World} {B0 p d : Nat} {v v' : Value} {done : List Int} {rest : List Rw} {y : Int} (h : PkS w B0 p v done rest wr) (hd : done.length = d) (hp : p < B0) (hw : w.heap.size ≤ p) (hw2 : w.heap.size ≤ B0) (hb0 : Below B0 wr w0)
    (hR : RwsB B0 ((⟨v, 3, 1, d, cellsI done⟩ :: rest).set 0 ⟨v', 3, 1, d + 1, cellsI done ++ (#[.int .i64 y] : Array Value).toList⟩) w') (hk : ∀ k, k < B0 → w'.heap[k]? = w0.heap[k]?) (hb : Below B0 w0 w') :
    ∃ A c, v' = .slice A (d + 1) c ∧ w'.cell? ⟨p, 0, none⟩ = some v ∧ w'.frozen? ⟨p, 0, none⟩ = false ∧ PkS w B0 p (.slice A (d + 1) c) (done ++ [y]) [] (w'.setCell ⟨p, 0, none⟩ (.slice A (d + 1) c)) := by
  subst hd
  have e : cellsI (done ++ [y]) = cellsI done ++ [.int .i64 y] := by simp [cellsI]
  have el : (done ++ [y]).length = done.length + 1 := by simp
  have ho : w'.ownsRow B0 3 1 v' (done ++ [y]).length (cellsI (done ++ [y])) := by rw [e, el]; exact hR.own _ List.mem_cons_self
  obtain ⟨A, c, rfl, _⟩ := IntsAt.of_own ho
  have hb1 : Blk w' p 23 #[v] := ((hk p hp).trans (hb0.block p hp)).trans h.blk
  refine ⟨A, c, by rw [el], hb1.cell 0, hb1.frozen 0, hb1.set_ 0 _, ?_, ?_, ?_⟩
  · have h1 : RwsB B0 [⟨.slice A (done.length + 1) c, 3, 1, (done ++ [y]).length, cellsI (done ++ [y])⟩] w' := by
      refine ⟨fun r hr => ?_, List.pairwise_singleton _ _⟩
      rw [List.mem_singleton.1 hr, ← el]
      exact ho
    exact h1.setCell (p := ⟨p, 0, none⟩) hp _
  · simp; exact Nat.le_trans h.size (Nat.le_trans hb0.size hb.size)
  · exact ((h.bel.trans (hb0.mono hw2)).trans (hb.mono hw2)).setCell hw _
def PickPost (rs : List (List Int)) (by_ : List Int) (w : World) (e : Ending) (w' : World) : Prop := ∃ v, e = .returned (.tuple #[v, .int .i64 (bErr rs)]) ∧ IntsV w' v (if bErr rs = 0 then pickN rs by_ rs.length else []) ∧ Below w.heap.size w w'
theorem pickPost_bad {rs : List (List Int)} {by_ : List Int} {w : World} {e : Int} (he : bErr rs = e) (h : e ≠ 0) : PickPost rs by_ w (.returned (.tuple #[.slice none 0 0, .int .i64 e])) w :=
  ⟨.slice none 0 0, by rw [he], by rw [if_neg (by rw [he]; exact h)]; exact IntsV.nil _, Below.refl _ _⟩

set_option maxHeartbeats 4000000 in
set_option maxRecDepth 20000 in
theorem pick_any (rs : List Row) (A : Option Addr) (n c : Nat) (ts : List Int) (A1 : Option Addr) (n1 c1 : Nat) (w : World) (hn : n = rs.length) (hm : n ≤ 9223372036854775807) (h : RowsAt w w.heap.size A rs) (hn1 : n1 = ts.length) (hm1 : n1 ≤ 9223372036854775807) (hs : IntsAt w w.heap.size A1 ts) (hts : ∀ x ∈ ts, -9223372036854775808 ≤ x ∧ x ≤ 9223372036854775807) :
    Calls Try.prog 40 #[.slice A n c, .slice A1 n1 c1] w (PickPost (ll rs) ts w) := by
  have HC := Lib.hid (bcheck_any rs A n c w hn hm h)
  have HN := Lib.hid hn
  have HNL := Lib.hid (show n = (ll rs).length by rw [ll_len]; exact hn); clear hn
  have HN1 := Lib.hid hn1; clear hn1
  have H := Lib.hid h; clear h
  have H1 := Lib.hid hs; clear hs
  have HTS := Lib.hid hts; clear hts
  by_cases he : bErr (ll rs) = 0
  · have hv := bErr_vld he
    have h40 : n ≤ 40 := by rw [HNL.out]; exact hv.le
    have HV := Lib.hid hv; clear hv
    have HE := Lib.hid he; clear he
    rw [HE.out] at HC
    go_enter Try.func40, Try.ntmps40
    go_wp2_with fail
    refine HC.out.mono ?_
    rintro e w' ⟨rfl, rfl⟩
    go_wp2_with fail
    have HP0 : Hid (PkS w (w.heap.size + 1) w.heap.size (.slice none 0 0) (pickN (ll rs) ts 0) [] (w.alloc (.cells #[.slice none 0 0] 23))) := Lib.hid (by
      refine ⟨Blk.new _ _ _, ⟨fun r hr => ?_, List.pairwise_singleton _ _⟩, by simp, (Below.refl _ _).alloc (Nat.le_refl _) _⟩
      rw [List.mem_singleton.1 hr]
      exact ⟨rfl, .inl ⟨rfl, rfl⟩⟩)
    generalize w.alloc (.cells #[.slice none 0 0] 23) = w1 at *
    go_loopg [] n (fun k wr => ∃ (d : Nat) (v : Value), k = n - d ∧ d ≤ n ∧ Hid (PkS w (w.heap.size + 1) w.heap.size v (pickN (ll rs) ts d) [] wr))
    case atStart => exact ⟨0, _, by omega, Nat.zero_le _, HP0.out⟩
    case round =>
      clear HP0
      obtain ⟨d, v, hgk, hd, hps⟩ := hrel
      have HGK := Lib.hid hgk; clear hgk
      have HPK := Lib.hid (pickN_pk (by_ := ts) HV.out.low (k := d) (by rw [← HNL.out]; exact hd))
      obtain ⟨Ad, cd, rfl, hcd, hmd, _⟩ := hps.out.slice
      have hlen := HPK.out.len
      rw [hlen] at hcd hps
      have HLD := Lib.hid hlen
      clear hlen
      unfold maxLen at hmd
      have g0 := hps.out.cell
      obtain ⟨done, hdone⟩ : ∃ done, pickN (ll rs) ts d = done := ⟨_, rfl⟩
      have HDONE := Lib.hid hdone
      rw [hdone] at hps HPK HLD
      clear hdone
      by_cases hlt : d < n
      · have HNX : Hid (pickN (ll rs) ts (d+1) = pickS (ll rs) ts done) := Lib.hid (by rw [← HDONE.out]; rfl)
        have HRP : Hid (0 < (readyL (ll rs) done n).length) := Lib.hid (by
          have := ready_pos HV.out.low (done := done) (by rw [HLD.out, ← HNL.out]; exact hlt)
          rw [← HNL.out] at this
          exact this)
        have HPS0 := Lib.hid hps.out.nil
        go_wp2_with fail
        clear g0
        go_loopg [8, 24] n (fun kk u i wi => ∃ (q m : Nat), kk = n - q ∧ q ≤ n ∧ i = .int .i64 q ∧ Hid ((readyL (ll rs) done q).length = m) ∧ Hid (PkS w (w.heap.size + 1) w.heap.size (.slice Ad d cd) done [⟨u, 3, 1, m, cellsI (readyL (ll rs) done q)⟩] wi))
        case atStart => exact ⟨0, 0, by omega, Nat.zero_le _, rfl, rfl, HPS0.out⟩
        case round =>
          clear HPS0 hps
          obtain ⟨q, m, hgk2, hq, rfl, hml, hps⟩ := hrel
          have HGK2 := Lib.hid hgk2; clear hgk2
          by_cases hlt2 : q < n
          · obtain ⟨r, hr⟩ := get_of_lt HN.out hlt2
            obtain ⟨b, off, rfl, hb, h0, hxm, hx⟩ := H.out q r hr
            have HR := Lib.hid (ll_get hr); clear hr
            have g1 := (hps.out.bel.cell (p := ⟨b, off + q, none⟩) hb).trans h0
            have g0 := hps.out.cell
            have HX := Lib.hid ((hx.below hps.out.bel (Nat.le_refl _)).more hps.out.bel.size); clear hx h0
            have HVAR := Lib.hid hps.out.var
            obtain ⟨A', c', hA', _, _, hI'⟩ := hps.out.slice
            rw [HLD.out] at hA'
            cases hA'
            have HI := Lib.hid hI'; clear hI'
            obtain ⟨tA, tc, txs⟩ := r
            dsimp only at g1 hxm HX HR
            have HRD : Hid (rdy (ll rs) done q = (!decide ((q : Int) ∈ done) && !txs.any (fun y => !decide (y ∈ done)))) := Lib.hid (by unfold rdy; rw [HR.out]; rfl)
            have HMQ := Lib.hid (readyL_len (ll rs) done q)
            generalize hm2 : txs.length = m2 at *
            have HM2 := Lib.hid hm2; clear hm2
            have hmq : m ≤ q := by rw [← hml.out]; exact HMQ.out
            have hnm : m + 1 ≤ 4294967296 := by omega
            by_cases h1 : decide ((q : Int) ∈ done) = true
            · have HNO := Lib.hid (readyL_no (rs := ll rs) (done := done) (k := q) (by rw [HRD.out, h1]; rfl))
              have HCC := Lib.hid (fun W hI => containsI_any done Ad d cd (q : Int) W HLD.out.symm (by omega) hI h1)
              clear h1
              go_wp2_with fail
              refine (HCC.out _ HI.out).mono ?_
              rintro e w' ⟨rfl, rfl⟩
              go_wp2_with fail
              go_roundg (n - (q + 1))
              case measure => rw [HGK2.out]; omega
              case rel => exact ⟨q+1, m, rfl, by omega, by go_num, by rw [HNO.out]; exact hml.out, by rw [HNO.out]; exact hps.out⟩
            · have h1' : decide ((q : Int) ∈ done) = false := by simpa using h1
              have HCC := Lib.hid (fun W hI => containsI_any done Ad d cd (q : Int) W HLD.out.symm (by omega) hI h1')
              by_cases h2 : txs.any (fun y => !decide (y ∈ done)) = true
              · have HNO := Lib.hid (readyL_no (rs := ll rs) (done := done) (k := q) (by rw [HRD.out, h1', h2]; rfl))
                have HCF := Lib.hid (fun W hI hV => containsF_any txs done tA m2 tc w.heap.size W HM2.out.symm (by omega) hI hV h2)
                clear h1 h1' h2
                go_wp2_with fail
                refine (HCC.out _ HI.out).mono ?_
                rintro e w' ⟨rfl, rfl⟩
                go_wp2_with fail
                refine (HCF.out _ HX.out HVAR.out).mono ?_
                rintro e w' ⟨rfl, rfl⟩
                go_wp2_with fail
                go_roundg (n - (q + 1))
                case measure => rw [HGK2.out]; omega
                case rel => exact ⟨q+1, m, rfl, by omega, by go_num, by rw [HNO.out]; exact hml.out, by rw [HNO.out]; exact hps.out⟩
              · have h2' : txs.any (fun y => !decide (y ∈ done)) = false := by simpa using h2
                have HYES := Lib.hid (readyL_yes (rs := ll rs) (done := done) (k := q) (by rw [HRD.out, h1', h2']; rfl))
                have HCF := Lib.hid (fun W hI hV => containsF_any txs done tA m2 tc w.heap.size W HM2.out.symm (by omega) hI hV h2')
                clear h1 h1' h2 h2'
                go_wp2_with fail
                refine (HCC.out _ HI.out).mono ?_
                rintro e w' ⟨rfl, rfl⟩
                go_wp2_with fail
                refine (HCF.out _ HX.out HVAR.out).mono ?_
                rintro e w' ⟨rfl, rfl⟩
                have hsz := hps.out.size
                go_wp2_with (
                  at_builtin
                  refine wpList_append_at (i := 1) rfl (.tmp 39) (.tmp 41) _ rfl Try.underlying23 infoI rfl rfl hps.out.rows hsz rfl rfl rfl rfl (one_i _) hnm ?_
                  intro v4 w4 hR4 hk4 hb4 h14)
                have HP4 := Lib.hid (hps.out.add hml.out (by omega) (by omega) hR4 hk4 hb4)
                go_roundg (n - (q + 1))
                case measure => rw [HGK2.out]; omega
                case rel => exact ⟨q+1, m+1, rfl, by omega, by go_num, by rw [HYES.out, List.length_append, hml.out]; rfl, by rw [HYES.out]; exact HP4.out⟩
          · obtain rfl : q = n := by omega
            have hmp : 0 < m := by rw [← hml.out]; exact HRP.out
            have g0 := hps.out.cell
            have HPI := Lib.hid (pickI_bd (by_ := ts) (d := d) hmp)
            obtain ⟨A8, c8, rfl, hc8, hm8, hI8⟩ := hps.out.ready hml.out
            have HI8 := Lib.hid hI8; clear hI8
            unfold maxLen at hm8
            go_upto_if 48 with (fail)
            go_cut [11] (fun s11 wc => s11 = .int .i64 (pickI ts d m) ∧ wc = wr)
            case first =>
              by_cases hby : d < n1
              · obtain ⟨bv, hbv⟩ := get_of_lt HN1.out hby
                obtain ⟨b1, off1, rfl, hb1, h1⟩ := H1.out d bv hbv
                have g1 := (hps.out.bel.cell (p := ⟨b1, off1 + d, none⟩) hb1).trans h1
                obtain ⟨z1, z2⟩ := HTS.out bv (List.mem_of_getElem? hbv)
                have HI : Hid (pickI ts d m = if bv.tmod (m : Int) < 0 then bv.tmod (m : Int) + m else bv.tmod (m : Int)) := Lib.hid (by unfold pickI; rw [← HN1.out, if_pos hby, nth_get hbv])
                clear hbv h1
                have r1 := Int.tmod_lt_of_pos bv (show (0 : Int) < (m : Int) by omega)
                have r2 : -(m : Int) < bv.tmod (m : Int) := Int.lt_tmod_of_pos _ (by omega)
                have hm0 : ((m : Int) == 0) = false := by simp; omega
                have hm1 : m ≠ 0 := by omega
                obtain ⟨rv, hrv⟩ : ∃ rv, bv.tmod (m : Int) = rv := ⟨_, rfl⟩
                rw [hrv] at r1 r2 HI
                by_cases hneg : rv < 0
                · rw [if_pos hneg] at HI
                  go_wp2_with fail
                  go_meet
                  exact ⟨by rw [HI.out], rfl⟩
                · rw [if_neg hneg] at HI
                  go_wp2_with fail
                  go_meet
                  exact ⟨by rw [HI.out], rfl⟩
              · have HI : Hid (pickI ts d m = 0) := Lib.hid (by unfold pickI; rw [← HN1.out, if_neg hby])
                go_wp2_with fail
                go_meet
                exact ⟨by rw [HI.out], rfl⟩
            case rest =>
              obtain ⟨rfl, rfl⟩ := hcut
              obtain ⟨i0, i1⟩ := HPI.out
              obtain ⟨iN, hiN⟩ := Int.eq_ofNat_of_zero_le i0
              rw [hiN]
              have HIN := Lib.hid hiN; clear i0
              rw [hiN] at i1
              clear hiN
              obtain ⟨y, hy⟩ := get_of_lt hml.out.symm (show iN < m by omega)
              obtain ⟨b8, off8, rfl, hb8, h8⟩ := HI8.out iN y hy
              have HNEW : Hid (pickN (ll rs) ts (d+1) = done ++ [y]) := Lib.hid (by
                rw [HNX.out]
                unfold pickS
                rw [← HNL.out, HLD.out, hml.out, HIN.out, nth_get hy])
              clear hy
              have hnm : d + 1 ≤ 4294967296 := by omega
              have hsz := hps.out.size
              have k0 : (0 : Int) ≤ (iN : Int) := by omega
              have k1 : (iN : Int) < (m : Int) := by omega
              have hpl := hps.out.blk.lt
              go_wp2_with fail
              go_region_law (first
                | (refine step_append_at (i := 0) rfl (.tmp 63) (.tmp 68) _ rfl Try.underlying23 infoI rfl rfl (by first | exact (hps.out.rows.alloc _).drew | exact hps.out.rows.drew.alloc _) (by first | (simp; omega) | omega) (by first | exact (Blk.new _ _ _).drew | exact Blk.new _ _ _) (by rw [HLD.out]; rfl) rfl rfl rfl (one_i _) hnm ?_
                   intro v4 w4 hR4 hk4 hb4
                   obtain ⟨A9, c9, rfl, g5, g6, hB9⟩ := hps.out.picked (y := y) HLD.out (by omega) (Nat.le_refl _) (by omega) (by first | exact ((Below.refl _ _).alloc hsz _).drew | exact (Below.refl _ _).drew.alloc hsz _) hR4 hk4 hb4
                   have HB9 := Lib.hid hB9
                   clear hR4 hk4 hb4 hB9)
                | fail)
              all_goals
                go_wp2_with fail
                go_roundg (q - (d + 1))
                case measure => rw [HGK.out]; omega
                case rel => exact ⟨d+1, _, rfl, by omega, by rw [HNEW.out]; exact HB9.out⟩
      · obtain rfl : d = n := by omega
        have HFIN : Hid (pickN (ll rs) ts (ll rs).length = done) := Lib.hid (by rw [← HNL.out]; exact HDONE.out)
        have hsl := hps.out.slice
        have HIV : Hid (IntsV wr (.slice Ad d cd) done) := Lib.hid (by
          obtain ⟨A', c', h1, h2, h3, h4⟩ := hsl
          exact ⟨A', c', h1, h2, h3, h4⟩)
        clear hsl
        go_wp2_with fail
        go_ret2
        exact ⟨_, by rw [HE.out]; rfl, by rw [if_pos HE.out, HFIN.out]; exact HIV.out, hps.out.bel⟩
  · have hne : (bErr (ll rs) != 0) = true := by simpa using he
    obtain ⟨eb, heb⟩ : ∃ eb, bErr (ll rs) = eb := ⟨_, rfl⟩
    rw [heb] at hne he HC
    have HE := Lib.hid heb; clear heb
    have HNE := Lib.hid he; clear he
    go_enter Try.func40, Try.ntmps40
    go_wp2_with fail
    refine HC.out.mono ?_
    rintro e w' ⟨rfl, rfl⟩
    go_wp2_with fail
    go_ret2
    exact pickPost_bad HE.out HNE.out
end Go.Proofs.Ytogjfmgecnoceaa
