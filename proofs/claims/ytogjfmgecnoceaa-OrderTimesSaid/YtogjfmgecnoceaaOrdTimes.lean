/- OrderTimes: Times, Latest and Critical return what the reference says, for all lists: the walk of the law, with no condition. -/
import Derived.Test.YtogjfmgecnoceaaOrdM
import Derived.Test.YtogjfmgecnoceaaOrdE
import Derived.Test.YtogjfmgecnoceaaOrdF
import Derived.Test.YtogjfmgecnoceaaOrdH
import Derived.Test.YtogjfmgecnoceaaOpen
namespace Go.Proofs.Ytogjfmgecnoceaa
open Go.RowKit Go.ChangeShapes Go.WideShapes Go.Deep
set_option linter.unusedVariables false
set_option linter.unusedSimpArgs false

theorem crit_facts {rs : List (List Int)} {ts : List Int} {L : Nat → Int} {n : Nat} (he : tmErr rs ts = 0) (hn : n = rs.length) :
    startsOf rs ts n = startsL rs ts ∧ endB rs ts n = endL rs ts ∧ lateOf rs.length ts (endB rs ts rs.length) L = lateL rs ts L ∧ critF (startsL rs ts) (lateL rs ts L) n = critL rs ts L ∧ (startsL rs ts).length = n ∧ (lateL rs ts L).length = n := by
  subst hn
  refine ⟨?_, ?_, ?_, ?_, startsL_len he, lateL_len he⟩
  · unfold startsL; rw [if_pos he]
  · unfold endL; rw [if_pos he]
  · unfold lateL; rw [if_pos he]
  · unfold critL; rw [if_pos he]
theorem bad_facts {rs : List (List Int)} {ts : List Int} {L : Nat → Int} (he : tmErr rs ts ≠ 0) : startsL rs ts = [] ∧ endL rs ts = 0 ∧ lateL rs ts L = [] ∧ critL rs ts L = [] := by
  refine ⟨?_, ?_, ?_, ?_⟩
  · unfold startsL; rw [if_neg he]
  · unfold endL; rw [if_neg he]
  · unfold lateL; rw [if_neg he]
  · unfold critL; rw [if_neg he]

set_option maxHeartbeats 8000000 in
set_option maxRecDepth 40000 in
theorem orderTimes_core (rs : List Row) (A : Option Addr) (n c : Nat) (ts : List Int) (A1 : Option Addr) (n1 c1 : Nat) (w : World) (hn : n = rs.length) (hm : n ≤ 9223372036854775807) (h : RowsAt w w.heap.size A rs) (hn1 : n1 = ts.length) (hm1 : n1 ≤ 9223372036854775807) (hs : IntsAt w w.heap.size A1 ts) :
    Calls Try.prog 4 #[.slice A n c, .slice A1 n1 c1] w fun e w' => e = .returned (.bool true) ∧ Below w.heap.size w w' := by
  have HNL := Lib.hid (show n = (ll rs).length by rw [ll_len]; exact hn)
  have HT := Lib.hid (times_any rs A n c ts A1 n1 c1 w hn hm h hn1 hm1 hs)
  have HTF := Lib.hid (fun (W : World) (hb : Below w.heap.size w W) => tfault_any rs A n c ts A1 n1 c1 W hn hm (h.next hb) hn1 hm1 (hs.next hb))
  by_cases he : tmErr (ll rs) ts = 0
  · obtain ⟨hv, hl, hts⟩ := tmErr_zero he
    obtain ⟨L, hL⟩ := back_ex (ll rs) ts hv.low
    have h40 : n ≤ 40 := by rw [HNL.out]; exact hv.le
    have hnn : n1 = n := by rw [hn1, hl, HNL.out]
    subst hnn
    have HLT := Lib.hid (fun (W : World) (hb : Below w.heap.size w W) => latest_any rs A n1 c ts A1 n1 c1 W hn hm (h.next hb) hn1 hm1 (hs.next hb) L (fun _ => hL))
    have HCR := Lib.hid (fun (W : World) (hb : Below w.heap.size w W) => critical_any rs A n1 c ts A1 n1 c1 W hn hm (h.next hb) hn1 hm1 (hs.next hb) L (fun _ => hL))
    have HST := Lib.hid (fun (W : World) (hb : Below w.heap.size w W) => starts_any rs A n1 c ts A1 n1 c1 W hn hv.low h40 (h.next hb) hn1 rfl hts (hs.next hb))
    have HLO := Lib.hid (fun (W : World) (hb : Below w.heap.size w W) => lateof_any rs A n1 c ts A1 n1 c1 W hn hv (h.next hb) hn1 rfl hts (hs.next hb) L hL)
    clear hv hl hts hL hn h hn1 hs
    obtain ⟨f1, f2, f3, f4, f5, f6⟩ := crit_facts (L := L) he HNL.out
    have HCF := Lib.hid (fun k => critF_len (startsL (ll rs) ts) (lateL (ll rs) ts L) k)
    have HCY := Lib.hid (fun k => critF_yes (a := startsL (ll rs) ts) (b := lateL (ll rs) ts L) (k := k))
    have HCN := Lib.hid (fun k => critF_no (a := startsL (ll rs) ts) (b := lateL (ll rs) ts L) (k := k))
    unfold TimesPost at HT
    unfold LatePost at HLT
    unfold CritPost at HCR
    unfold StartPost at HST
    unfold LateOfPost at HLO
    rw [he] at HT HTF HLT HCR
    rw [f1, f2] at HST
    rw [f3] at HLO
    rw [← f4] at HCR
    clear f1 f2 f3 f4 he HNL
    generalize startsL (ll rs) ts = sl at *
    generalize lateL (ll rs) ts L = lt at *
    generalize endL (ll rs) ts = en at *
    have HSL := Lib.hid f5; clear f5
    have HLL := Lib.hid f6; clear f6
    go_enter Try.func4, Try.ntmps4
    go_wp2_with fail
    refine HT.out.mono ?_
    rintro e w1 ⟨v5, rfl, ⟨A5, c5, rfl, hl5, hm5, hi5⟩, hb1⟩
    have HI5 := Lib.hid hi5; clear hi5
    rw [HSL.out] at hl5 ⊢
    go_wp2_with fail
    refine (HLT.out w1 hb1).mono ?_
    rintro e w2 ⟨v8, rfl, ⟨A8, c8, rfl, hl8, hm8, hi8⟩, hb2⟩
    have HI8 := Lib.hid hi8; clear hi8
    rw [HLL.out] at hl8 ⊢
    have HB2 := Lib.hid (hb1.trans (hb2.mono hb1.size))
    go_wp2_with fail
    refine (HCR.out w2 HB2.out).mono ?_
    rintro e w3 ⟨v10, rfl, ⟨A10, c10, rfl, hl10, hm10, hi10⟩, hb3⟩
    have HI10 := Lib.hid hi10; clear hi10
    have HB3 := Lib.hid (HB2.out.trans (hb3.mono HB2.out.size))
    have hcn := HCF.out n1
    generalize hcl0 : (critF sl lt n1).length = cr at *
    have HCR0 := Lib.hid hcl0; clear hcl0
    unfold maxLen at hm5 hm8 hm10
    go_wp2_with fail
    refine (HTF.out w3 HB3.out).mono ?_
    rintro e w3' ⟨rfl, rfl⟩
    go_wp2_with fail
    refine (ordered_any w3).mono ?_
    rintro e w4 ⟨rfl, hb4⟩
    have HB4 := Lib.hid (HB3.out.trans (hb4.mono HB3.out.size))
    go_wp2_with fail
    refine (HST.out w4 HB4.out).mono ?_
    rintro e w5 ⟨v13, rfl, ⟨A13, c13, rfl, hl13, hm13, hi13⟩, hb5⟩
    have HI13 := Lib.hid hi13; clear hi13
    rw [HSL.out] at hl13 ⊢
    have HB5 := Lib.hid (HB4.out.trans (hb5.mono HB4.out.size))
    go_wp2_with fail
    refine (HLO.out w5 HB5.out).mono ?_
    rintro e w6 ⟨v15, rfl, ⟨A15, c15, rfl, hl15, hm15, hi15⟩, hb6⟩
    have HI15 := Lib.hid hi15; clear hi15
    rw [HLL.out] at hl15 ⊢
    have HB6 := Lib.hid (HB5.out.trans (hb6.mono HB5.out.size))
    unfold maxLen at hm13 hm15
    have HI5' := Lib.hid (((((HI5.out.next hb2).next hb3).next hb4).next hb5).next hb6); clear HI5
    have HI8' := Lib.hid ((((HI8.out.next hb3).next hb4).next hb5).next hb6); clear HI8
    have HI10' := Lib.hid (((HI10.out.next hb4).next hb5).next hb6); clear HI10
    have HI13' := Lib.hid (HI13.out.next hb6); clear HI13
    clear hb1 hb2 hb3 hb4 hb5 hb6 HT HTF HLT HCR HST HLO
    go_wp2_with fail
    go_loopg [16, 81] n1 (fun k o i wr => ∃ j : Nat, k = n1 - j ∧ j ≤ n1 ∧ i = .int .i64 j ∧ Hid (IRow w6 o (critF sl lt j) wr))
    case atStart => exact ⟨0, by omega, Nat.zero_le _, rfl, IRow.nil (Below.refl _ _)⟩
    case round =>
      obtain ⟨j, hgk, hj, rfl, hrow⟩ := hrel
      have HGK := Lib.hid hgk; clear hgk
      by_cases hlt : j < n1
      · obtain ⟨x, hx⟩ := get_of_lt HSL.out.symm hlt
        obtain ⟨y, hy⟩ := get_of_lt HLL.out.symm hlt
        obtain ⟨b, off, rfl, hb, h0⟩ := HI13'.out j x hx
        obtain ⟨b', off', rfl, hb', h0'⟩ := HI15.out j y hy
        have HXY := Lib.hid (And.intro (nth_get hx) (nth_get hy)); clear hx hy
        have g0 := (hrow.out.bel.cell (p := ⟨b, off + j, none⟩) hb).trans h0
        have g1 := (hrow.out.bel.cell (p := ⟨b', off' + j, none⟩) hb').trans h0'
        clear h0 h0'
        have i1 : (0 : Int) ≤ (j : Int) := by omega
        have i2 : (j : Int) < (n1 : Int) := by omega
        have hcl := HCF.out j
        obtain ⟨cl, hcl2⟩ : ∃ cl, (critF sl lt j).length = cl := ⟨_, rfl⟩
        rw [hcl2] at hcl
        have HCL := Lib.hid hcl2; clear hcl2
        have hnm : cl + 1 ≤ 4294967296 := by omega
        by_cases hxy : x = y
        · have HY := Lib.hid (HCY.out j (by rw [HXY.out.1, HXY.out.2, hxy]))
          have hd : (x == y) = true := by simp [hxy]
          clear hxy
          go_wp2_with fail
          go_quiet (fail)
          go_wp2_with (
            at_builtin
            refine wpList_append_one rfl (.tmp 93) (.tmp 95) _ rfl Try.underlying23 infoI rfl rfl ((IRow.drewN hrow.out _).row HCL.out) rfl rfl rfl (one_i _) hnm ?_
            intro v5 w9 hR4 hb4
            have HR4 := Lib.hid (IRow.add HCL.out hR4)
            clear hR4)
          go_roundg (n1 - (j + 1))
          case measure => rw [HGK.out]; omega
          case rel => exact ⟨j+1, rfl, by omega, by go_num, HR4.out.re HY.out⟩
        · have HY := Lib.hid (HCN.out j (by rw [HXY.out.1, HXY.out.2]; exact hxy))
          have hd : (x == y) = false := by simp [hxy]
          clear hxy
          go_wp2_with fail
          go_quiet (fail)
          go_wp2_with fail
          go_roundg (n1 - (j + 1))
          case measure => rw [HGK.out]; omega
          case rel => exact ⟨j+1, rfl, by omega, by go_num, (IRow.drewN hrow.out _).re HY.out⟩
      · obtain rfl : j = n1 := by omega
        obtain ⟨A16, c16, rfl, hl16, hm16, hi16⟩ := hrow.out.ints
        have HI16 := Lib.hid hi16; clear hi16
        rw [HCR0.out] at hl16 ⊢
        unfold maxLen at hm16
        have hb7 := hrow.out.bel
        have HB7 := Lib.hid (HB6.out.trans (hb7.mono HB6.out.size))
        have HQ1 := Lib.hid (equalI_any sl sl A5 A13 j j c5 c13 wr HSL.out.symm HSL.out.symm (by omega) (by omega) (HI5'.out.next hb7) (HI13'.out.next hb7) (r := true) (decide_eq_true rfl))
        have HQ2 := Lib.hid (fun (W : World) (hb : Below wr.heap.size wr W) => equalI_any lt lt A8 A15 j j c8 c15 W HLL.out.symm HLL.out.symm (by omega) (by omega) ((HI8'.out.next hb7).next hb) ((HI15.out.next hb7).next hb) (r := true) (decide_eq_true rfl))
        have HQ3 := Lib.hid (fun (W : World) (hb : Below wr.heap.size wr W) => equalI_any _ _ A10 A16 cr cr c10 c16 W HCR0.out.symm HCR0.out.symm (by omega) (by omega) ((HI10'.out.next hb7).next hb) (HI16.out.next hb) (r := true) (decide_eq_true rfl))
        clear hb7
        go_wp2_with fail
        refine HQ1.out.mono ?_
        rintro e w10 ⟨rfl, hb10⟩
        go_wp2_with fail
        refine (HQ2.out w10 hb10).mono ?_
        rintro e w11 ⟨rfl, hb11⟩
        have hb12 := hb10.trans (hb11.mono hb10.size)
        go_wp2_with fail
        refine (HQ3.out w11 hb12).mono ?_
        rintro e w12 ⟨rfl, hb13⟩
        have HB13 := Lib.hid (HB7.out.trans ((hb12.trans (hb13.mono hb12.size)).mono HB7.out.size))
        clear hb10 hb11 hb12 hb13
        go_wp2_with fail
        go_ret
        exact ⟨rfl, HB13.out⟩
  · have HLT := Lib.hid (fun (W : World) (hb : Below w.heap.size w W) => latest_any rs A n c ts A1 n1 c1 W hn hm (h.next hb) hn1 hm1 (hs.next hb) (fun _ => 0) (fun h0 => absurd h0 he))
    have HCR := Lib.hid (fun (W : World) (hb : Below w.heap.size w W) => critical_any rs A n c ts A1 n1 c1 W hn hm (h.next hb) hn1 hm1 (hs.next hb) (fun _ => 0) (fun h0 => absurd h0 he))
    clear hn h hn1 hs
    obtain ⟨f1, f2, f3, f4⟩ := bad_facts (L := fun _ => 0) he
    unfold TimesPost at HT
    unfold LatePost at HLT
    unfold CritPost at HCR
    rw [f1, f2] at HT
    rw [f3] at HLT
    rw [f4] at HCR
    have hne : (tmErr (ll rs) ts != 0) = true := by simpa using he
    obtain ⟨eb, heb⟩ : ∃ eb, tmErr (ll rs) ts = eb := ⟨_, rfl⟩
    rw [heb] at hne HT HTF HLT HCR
    clear f1 f2 f3 f4 he heb HNL
    go_enter Try.func4, Try.ntmps4
    go_wp2_with fail
    refine HT.out.mono ?_
    rintro e w1 ⟨v5, rfl, ⟨A5, c5, rfl, hl5, hm5, hi5⟩, hb1⟩
    clear hi5
    go_wp2_with fail
    refine (HLT.out w1 hb1).mono ?_
    rintro e w2 ⟨v8, rfl, ⟨A8, c8, rfl, hl8, hm8, hi8⟩, hb2⟩
    clear hi8
    have HB2 := Lib.hid (hb1.trans (hb2.mono hb1.size))
    go_wp2_with fail
    refine (HCR.out w2 HB2.out).mono ?_
    rintro e w3 ⟨v10, rfl, ⟨A10, c10, rfl, hl10, hm10, hi10⟩, hb3⟩
    clear hi10
    have HB3 := Lib.hid (HB2.out.trans (hb3.mono HB2.out.size))
    go_wp2_with fail
    refine (HTF.out w3 HB3.out).mono ?_
    rintro e w3' ⟨rfl, rfl⟩
    go_wp2_with fail
    refine (ordered_any w3).mono ?_
    rintro e w4 ⟨rfl, hb4⟩
    have HB4 := Lib.hid (HB3.out.trans (hb4.mono HB3.out.size))
    clear hb1 hb2 hb3 hb4 HT HTF HLT HCR
    go_wp2_with fail
    go_ret
    exact ⟨rfl, HB4.out⟩

set_option maxRecDepth 40000 in
theorem orderTimes_walk {H : Type} {enc : TypeId × Value → H} (W : World) (v0 v1 : Value) {d0 d1 : DataW H} {p0 p1 : List MemPlace} {base : Nat}
    (h0 : DataW.Trod enc Try.prog W 0 (fun _ => true) true 29 v0 d0 p0) (h1 : DataW.Trod enc Try.prog W 0 (fun _ => true) true 23 v1 d1 p1)
    (o0 : Value.okWide Try.prog W .any base 29 v0) (o1 : Value.okWide Try.prog W .any base 23 v1) (w0 : Light Try.prog 29 d0) (w1 : Light Try.prog 23 d1) :
    Calls Try.prog 4 #[v0, v1] W fun e W' => e = .returned (.bool true) ∧ Below W.heap.size W W' := by
  obtain ⟨A0, n0, c0, rfl⟩ := okWide_slice Try.underlying29 o0
  obtain ⟨fuel0, hf0⟩ := h0
  obtain ⟨A0', c0', rs, hv0, hm0, hr0⟩ := open_rows Try.underlying29 Try.underlying23 Try.underlying3 (by kernel_rfl) (by kernel_rfl) (v := .slice A0 n0 c0) hf0 w0
  injection hv0 with e1 e2 e3
  subst e1 e2 e3
  obtain ⟨A1, n1, c1, rfl⟩ := okWide_slice Try.underlying23 o1
  obtain ⟨fuel, hf⟩ := h1
  obtain ⟨A1', c1', ss, hv, hlc, hm, _, hi, hb⟩ := open_ints_at Try.underlying23 Try.underlying3 (by kernel_rfl) (v := .slice A1 n1 c1) hf w1
  injection hv with e1 e2 e3
  subst e1 e2 e3
  exact orderTimes_core rs A0 _ c0 ss A1 _ _ W rfl hm0 hr0 rfl (by unfold maxLen at hm; omega) hi
end Go.Proofs.Ytogjfmgecnoceaa
