/- OrderChecks: Check, Right, Pick and Apply return what the reference says, for all lists: the walk of the law, with no condition. -/
import Derived.Test.YtogjfmgecnoceaaOrdM
import Derived.Test.YtogjfmgecnoceaaOrdO
import Derived.Test.YtogjfmgecnoceaaOrdT
import Derived.Test.YtogjfmgecnoceaaOrdV
import Derived.Test.YtogjfmgecnoceaaOrdW
import Derived.Test.YtogjfmgecnoceaaOpen
namespace Go.Proofs.Ytogjfmgecnoceaa
open Go.RowKit Go.ChangeShapes Go.WideShapes Go.Deep
set_option linter.unusedVariables false
set_option linter.unusedSimpArgs false

set_option maxHeartbeats 8000000 in
set_option maxRecDepth 40000 in
theorem orderChecks_core (rs : List Row) (A : Option Addr) (n c : Nat) (ts : List Int) (A1 : Option Addr) (n1 c1 : Nat) (bs : List Int) (A2 : Option Addr) (n2 c2 : Nat) (ls : List Sp) (A3 : Option Addr) (n3 c3 : Nat) (w : World) (hn : n = rs.length) (hm : n ≤ 9223372036854775807) (h : RowsAt w w.heap.size A rs)
    (hn1 : n1 = ts.length) (hm1 : n1 * 8 ≤ 140737488351232) (hc1 : n1 ≤ c1) (hs : IntsAt w w.heap.size A1 ts)
    (hn2 : n2 = bs.length) (hm2 : n2 ≤ 9223372036854775807) (hs2 : IntsAt w w.heap.size A2 bs) (hbs : ∀ x ∈ bs, -9223372036854775808 ≤ x ∧ x ≤ 9223372036854775807)
    (hn3 : n3 = ls.length) (hm3 : n3 * 40 ≤ 140737488351232) (hs3 : StepsAt w w.heap.size A3 ls) :
    Calls Try.prog 8 #[.slice A n c, .slice A1 n1 c1, .slice A2 n2 c2, .slice A3 n3 c3] w fun e w' => e = .returned (.bool true) ∧ Below w.heap.size w w' := by
  have HP := Lib.hid (pick_any rs A n c bs A2 n2 c2 w hn hm h hn2 hm2 hs2 hbs)
  have HPO := Lib.hid (fun (W : World) (hb : Below w.heap.size w W) => pickof_any rs A n c bs A2 n2 c2 W hn hm (h.next hb) hn2 hm2 (hs2.next hb) hbs)
  have HCK := Lib.hid (fun (W : World) (hb : Below w.heap.size w W) => bcheck_any rs A n c W hn hm (h.next hb))
  have HCF := Lib.hid (fun (W : World) (hb : Below w.heap.size w W) => bfault_any rs A n c W hn hm (h.next hb))
  have HR := Lib.hid (fun (W : World) (hb : Below w.heap.size w W) => right_any_ rs A n c ts A1 n1 c1 W hn hm (h.next hb) hn1 (by omega) (hs.next hb))
  have HRO := Lib.hid (fun (W : World) (hb : Below w.heap.size w W) => rightof_any rs A n c ts A1 n1 c1 W hn hm (h.next hb) hn1 (by omega) (hs.next hb))
  have HAP := Lib.hid (fun (W : World) (hb : Below w.heap.size w W) => apply_any ls A3 n3 c3 ts A1 n1 c1 W hn3 hm3 (hs3.next hb) hn1 (by omega) hc1 (hs.next hb))
  have HN1 := Lib.hid hn1; clear hn1
  have HN3 := Lib.hid hn3; clear hn3
  have H1 := Lib.hid hs; clear hs
  have H3 := Lib.hid hs3; clear hs3
  clear hn h hn2 hs2 hbs
  unfold PickPost at HP HPO
  unfold RightPost at HR HRO
  unfold ApplyPost at HAP
  generalize (if bErr (ll rs) = 0 then pickN (ll rs) bs (ll rs).length else []) = PL at *
  generalize bErr (ll rs) = be at *
  generalize rightB (ll rs) ts = rb at *
  go_enter Try.func8, Try.ntmps8
  go_wp2_with fail
  refine HP.out.mono ?_
  rintro e w1 ⟨v9, rfl, ⟨A9, c9, rfl, hl9, hm9, hi9⟩, hb1⟩
  have HI9 := Lib.hid hi9; clear hi9
  go_wp2_with fail
  refine (HPO.out w1 hb1).mono ?_
  rintro e w2 ⟨v11, rfl, ⟨A11, c11, rfl, hl11, hm11, hi11⟩, hb2⟩
  have HI11 := Lib.hid hi11; clear hi11
  have HI9' := Lib.hid (HI9.out.next hb2); clear HI9
  have HB2 := Lib.hid (hb1.trans (hb2.mono hb1.size))
  clear hb1 hb2
  generalize hpl : PL.length = pl at *
  have HPL := Lib.hid hpl; clear hpl
  unfold maxLen at hm9 hm11
  go_wp2_with fail
  refine (ordered_any w2).mono ?_
  rintro e w3 ⟨rfl, hb3⟩
  have HI9 := Lib.hid (HI9'.out.next hb3); clear HI9'
  have HI11' := Lib.hid (HI11.out.next hb3); clear HI11
  have HB3 := Lib.hid (HB2.out.trans (hb3.mono HB2.out.size)); clear hb3 HB2
  go_wp2_with fail
  refine (HCK.out w3 HB3.out).mono ?_
  rintro e w3' ⟨rfl, rfl⟩
  go_wp2_with fail
  refine (HCF.out w3 HB3.out).mono ?_
  rintro e w3' ⟨rfl, rfl⟩
  go_wp2_with fail
  refine (HR.out w3 HB3.out).mono ?_
  rintro e w4 ⟨rfl, hb4⟩
  have HI9' := Lib.hid (HI9.out.next hb4); clear HI9
  have HI11 := Lib.hid (HI11'.out.next hb4); clear HI11'
  have HB4 := Lib.hid (HB3.out.trans (hb4.mono HB3.out.size)); clear hb4 HB3
  go_wp2_with fail
  refine (HRO.out w4 HB4.out).mono ?_
  rintro e w5 ⟨rfl, hb5⟩
  have HI9 := Lib.hid (HI9'.out.next hb5); clear HI9'
  have HI11' := Lib.hid (HI11.out.next hb5); clear HI11
  have HB5 := Lib.hid (HB4.out.trans (hb5.mono HB4.out.size)); clear hb5 HB4
  go_wp2_with fail
  refine (equalI_any PL PL A9 A11 pl pl c9 c11 w5 HPL.out.symm HPL.out.symm (by omega) (by omega) HI9.out HI11'.out (r := true) (decide_eq_true rfl)).mono ?_
  rintro e w6 ⟨rfl, hb6⟩
  have HB6 := Lib.hid (HB5.out.trans (hb6.mono HB5.out.size)); clear hb6 HB5 HI9 HI11' HP HPO HCK HCF HR HRO
  go_wp2_with fail
  refine (HAP.out w6 HB6.out).mono ?_
  rintro e w7 ⟨v13, rfl, ⟨A13, c13, rfl, hl13, hm13, hi13⟩, hb7⟩
  have HI13 := Lib.hid hi13; clear hi13
  have HB7 := Lib.hid (HB6.out.trans (hb7.mono HB6.out.size)); clear hb7 HB6 HAP
  unfold maxLen at hm13
  go_wp2_with fail
  refine (values_any A1 n1 c1 w7).mono ?_
  rintro e w8 ⟨rfl, hw8⟩
  have hb8 : Below w7.heap.size w7 w8 := by rw [hw8]; exact (Below.refl _ _).alloc (Nat.le_refl _) _
  have HC8 : Hid (w8.cell? ⟨w7.heap.size, 0, none⟩ = some (.slice A1 n1 c1) ∧ w7.heap.size < w8.heap.size) := Lib.hid (by
    rw [hw8]; exact ⟨(Blk.new w7 _ _).cell 0, by simp⟩)
  have HI13' := Lib.hid (HI13.out.next hb8); clear HI13
  have HB8 := Lib.hid (HB7.out.trans (hb8.mono HB7.out.size)); clear hb8 HB7 hw8
  generalize w7.heap.size = Bs at *
  go_wp2_with fail
  refine (sorted_any Bs n1 c1 A1 ts HN1.out.symm (by unfold maxLen; omega) hm1 w8 HC8.out.2 HC8.out.1 (H1.out.next HB8.out)).mono ?_
  rintro e w9 ⟨v15, rfl, ⟨A15, c15, rfl, hl15, hm15, hi15⟩, hb9⟩
  have HI15 := Lib.hid hi15; clear hi15
  have HI13 := Lib.hid (HI13'.out.next hb9); clear HI13'
  have HB9 := Lib.hid (HB8.out.trans (hb9.mono HB8.out.size)); clear hb9 HB8 HC8
  have HSL : Hid ((ts.mergeSort (fun x y => decide (x ≤ y))).length = n1) := Lib.hid (by rw [List.length_mergeSort]; exact HN1.out.symm)
  have HPS := Lib.hid (fun (hl : ts.length = ls.length) => permP_sorted hl)
  rw [HSL.out] at hl15 ⊢
  unfold maxLen at hm15
  generalize ts.mergeSort (fun x y => decide (x ≤ y)) = so at *
  by_cases hl : n3 = n1
  · subst hl
    have hd0 : ((n3 : Int) != (n3 : Int)) = false := by simp
    have HLL : Hid (ts.length = ls.length) := Lib.hid (by rw [← HN1.out]; exact HN3.out)
    go_wp2_with fail
    go_loopg [12, 72] n3 (fun k f i wr => ∃ (j : Nat) (z : Int), k = n3 - j ∧ j ≤ n3 ∧ f = .int .i64 z ∧ i = .int .i64 j ∧ (z = 0 ∨ z = 1) ∧ Hid (z = 0 ↔ ∀ i, i < j → ∀ x, so[i]? = some x → x = (i : Int)) ∧ Hid (Below w9.heap.size w9 wr))
    case atStart => exact ⟨0, 0, by omega, Nat.zero_le _, rfl, rfl, .inl rfl, Lib.hid ⟨fun _ i hi => by omega, fun _ => rfl⟩, Below.refl _ _⟩
    case round =>
      obtain ⟨j, z, hgk, hj, rfl, rfl, hz, hzz, hbel⟩ := hrel
      have HGK := Lib.hid hgk; clear hgk
      by_cases hlt : j < n3
      · obtain ⟨x, hx⟩ := get_of_lt HSL.out.symm hlt
        obtain ⟨b1, off1, rfl, hb1, h1⟩ := HI15.out j x hx
        have g1 := (hbel.out.cell (p := ⟨b1, off1 + j, none⟩) hb1).trans h1
        clear h1
        have HX := Lib.hid hx; clear hx
        by_cases hxj : x = (j : Int)
        · have hd1 : (x != (j : Int)) = false := by simp [hxj]
          have HZ : Hid (z = 0 ↔ ∀ i, i < j + 1 → ∀ x, so[i]? = some x → x = (i : Int)) := Lib.hid (hzz.out.trans ⟨fun h => forall_lt_succ h (fun y hy => by rw [HX.out] at hy; rw [← Option.some.inj hy]; exact hxj), fun h i hi => h i (by omega)⟩)
          clear hxj
          go_wp2_with fail
          go_roundg (n3 - (j + 1))
          case measure => rw [HGK.out]; omega
          case rel => exact ⟨j+1, z, rfl, by omega, rfl, by go_num, hz, HZ.out, hbel.out⟩
        · have hd1 : (x != (j : Int)) = true := by simp [hxj]
          have HZ : Hid ((1 : Int) = 0 ↔ ∀ i, i < j + 1 → ∀ x, so[i]? = some x → x = (i : Int)) := Lib.hid ⟨fun h => by omega, fun h => absurd (h j (by omega) x HX.out) hxj⟩
          clear hxj
          go_wp2_with fail
          go_roundg (n3 - (j + 1))
          case measure => rw [HGK.out]; omega
          case rel => exact ⟨j+1, 1, rfl, by omega, rfl, by go_num, .inr rfl, HZ.out, hbel.out⟩
      · obtain rfl : j = n3 := by omega
        have HB10 := Lib.hid (HB9.out.trans (hbel.out.mono HB9.out.size))
        have HPZ : Hid (z = 0 ↔ PermP ls.length ts) := Lib.hid (by
          rw [HPS.out HLL.out, hzz.out]
          exact ⟨fun h i x hx => h i (by rw [← HSL.out]; exact (List.getElem?_eq_some_iff.1 hx).1) x hx, fun h i _ x hx => h i x hx⟩)
        clear hzz
        by_cases hz0 : z = 0
        · have HPP := Lib.hid (HPZ.out.1 hz0)
          subst hz0
          have HAE := Lib.hid (appE_ok HPP.out)
          have HAR : Hid (appR ls ts = appL ls ts) := Lib.hid (by unfold appR; rw [if_pos HPP.out])
          have HLN : Hid ((appL ls ts).length = j) := Lib.hid (by unfold appL; rw [List.length_map]; exact HN1.out.symm)
          rw [HAE.out]
          rw [HAR.out, HLN.out] at hl13 ⊢
          rw [HAR.out] at HI13
          go_wp2_with fail
          go_loopg [14, 89] j (fun k o i wr => ∃ q : Nat, k = j - q ∧ q ≤ j ∧ i = .int .i64 q ∧ Hid (SRow w9 o (appL ls (ts.take q)) wr))
          case atStart => exact ⟨0, by omega, Nat.zero_le _, rfl, SRow.nil hbel.out⟩
          case round =>
            obtain ⟨q, hgk2, hq, rfl, hrow⟩ := hrel
            have HGK2 := Lib.hid hgk2; clear hgk2
            have HBW := Lib.hid (HB9.out.trans (hrow.out.bel.mono HB9.out.size))
            by_cases hlt2 : q < j
            · obtain ⟨x, hx⟩ := get_of_lt HN1.out hlt2
              obtain ⟨b1, off1, rfl, hb1, h1⟩ := H1.out q x hx
              have g1 := (HBW.out.cell (p := ⟨b1, off1 + q, none⟩) hb1).trans h1
              clear h1
              obtain ⟨x0, x1, _⟩ := HPP.out.2 q x hx
              rw [← HN3.out] at x1
              obtain ⟨x, rfl⟩ := Int.eq_ofNat_of_zero_le x0
              have hxl : x < j := by omega
              obtain ⟨u, hu⟩ := get_of_lt HN3.out hxl
              obtain ⟨b, off, rfl, hb, h0, h1, h2, h3, h4⟩ := H3.out.five hu
              have g20 := (HBW.out.cell (p := ⟨b, off + x*5, none⟩) hb).trans h0
              have g21 := (HBW.out.cell (p := ⟨b, off + x*5+1, none⟩) hb).trans h1
              have g22 := (HBW.out.cell (p := ⟨b, off + x*5+2, none⟩) hb).trans h2
              have g23 := (HBW.out.cell (p := ⟨b, off + x*5+3, none⟩) hb).trans h3
              have g24 := (HBW.out.cell (p := ⟨b, off + x*5+4, none⟩) hb).trans h4
              have HTK := Lib.hid (appL_take (ls := ls) hx (u := u) (by rw [Int.toNat_natCast]; exact hu))
              have HLEN : Hid ((appL ls (ts.take q)).length = q) := Lib.hid (by unfold appL; rw [List.length_map, List.length_take, ← HN1.out]; omega)
              clear h0 h1 h2 h3 h4 hu hx x0 x1
              have hnm : q + 1 ≤ maxLen := by unfold maxLen; omega
              have hby : (q + 1) * 40 ≤ 140737488355328 := by omega
              have k0 : (0 : Int) ≤ (x : Int) := by omega
              have k1 : (x : Int) < (j : Int) := by omega
              go_wp2_with (
                at_builtin
                refine wpList_append_oneL rfl (.tmp 95) (.tmp 100) _ rfl Try.underlying46 infoT rfl rfl (hrow.out.row HLEN.out) rfl rfl rfl (one_t _) hnm hby ?_
                intro v5 w10 hR4 hb4
                have HR4 := Lib.hid (SRow.add HLEN.out hR4)
                clear hR4)
              go_roundg (j - (q + 1))
              case measure => rw [HGK2.out]; omega
              case rel => exact ⟨q+1, rfl, by omega, by go_num, HR4.out.re HTK.out⟩
            · obtain rfl : q = j := by omega
              have HTK : Hid (appL ls (ts.take q) = appL ls ts) := Lib.hid (by rw [HN1.out, List.take_length])
              have hsv := hrow.out.stepsV
              rw [HTK.out] at hsv
              obtain ⟨A14, c14, rfl, hl14, hm14, hi14⟩ := hsv
              unfold maxLen at hm14
              rw [HLN.out] at hl14 ⊢
              have HQ := Lib.hid (equalS_any (appL ls ts) A13 A14 q c13 c14 wr HLN.out.symm (by omega) (HI13.out.next hrow.out.bel) hi14)
              clear hi14
              go_wp2_with fail
              refine HQ.out.mono ?_
              rintro e w12 ⟨rfl, hb13⟩
              have HB13 := Lib.hid (HBW.out.trans (hb13.mono HBW.out.size))
              clear hb13
              go_wp2_with fail
              go_ret
              exact ⟨rfl, HB13.out⟩
        · have hz1 : z = 1 := by omega
          subst hz1
          have HPN : Hid (¬ PermP ls.length ts) := Lib.hid (fun hp => hz0 (HPZ.out.2 hp))
          have HAE := Lib.hid (appE_bad HLL.out HPN.out)
          have HAR : Hid (appR ls ts = []) := Lib.hid (by unfold appR; rw [if_neg HPN.out])
          rw [HAE.out]
          rw [HAR.out] at HI13 hl13 ⊢
          clear hz0
          go_wp2_with fail
          go_loopg [14, 89] j (fun k o i wr => ∃ q : Nat, k = j - q ∧ q ≤ j ∧ o = .slice none 0 0 ∧ i = .int .i64 q ∧ Hid (Below w9.heap.size w9 wr))
          case atStart => exact ⟨0, by omega, Nat.zero_le _, rfl, rfl, hbel.out⟩
          case round =>
            obtain ⟨q, hgk2, hq, rfl, rfl, hbel2⟩ := hrel
            have HGK2 := Lib.hid hgk2; clear hgk2
            by_cases hlt2 : q < j
            · obtain ⟨x, hx⟩ := get_of_lt HN1.out hlt2
              obtain ⟨b1, off1, rfl, hb1, h1⟩ := H1.out q x hx
              have g1 := ((HB9.out.trans (hbel2.out.mono HB9.out.size)).cell (p := ⟨b1, off1 + q, none⟩) hb1).trans h1
              clear h1 hx
              go_wp2_with fail
              go_roundg (j - (q + 1))
              case measure => rw [HGK2.out]; omega
              case rel => exact ⟨q+1, rfl, by omega, rfl, by go_num, hbel2.out⟩
            · obtain rfl : q = j := by omega
              have HQ := Lib.hid (equalS_any [] A13 none 0 c13 0 wr rfl (by omega) StepsAt.nil StepsAt.nil)
              go_wp2_with fail
              refine HQ.out.mono ?_
              rintro e w12 ⟨rfl, hb13⟩
              have HB13 := Lib.hid (HB9.out.trans ((hbel2.out.trans (hb13.mono hbel2.out.size)).mono HB9.out.size))
              clear hb13
              go_wp2_with fail
              go_ret
              exact ⟨rfl, HB13.out⟩
  · have hd0 : ((n3 : Int) != (n1 : Int)) = true := by simp; omega
    have HNE : Hid (ts.length ≠ ls.length) := Lib.hid (by rw [← HN1.out, ← HN3.out]; exact fun e => hl e.symm)
    clear hl
    have HAE := Lib.hid (appE_len HNE.out)
    have HAR : Hid (appR ls ts = []) := Lib.hid (by unfold appR; rw [if_neg (fun hp => HNE.out hp.1)])
    rw [HAE.out]
    rw [HAR.out] at HI13 hl13 ⊢
    go_wp2_with fail
    go_loopg [14, 89] n1 (fun k o i wr => ∃ j : Nat, k = n1 - j ∧ j ≤ n1 ∧ o = .slice none 0 0 ∧ i = .int .i64 j ∧ Hid (Below w9.heap.size w9 wr))
    case atStart => exact ⟨0, by omega, Nat.zero_le _, rfl, rfl, Below.refl _ _⟩
    case round =>
      obtain ⟨j, hgk, hj, rfl, rfl, hbel⟩ := hrel
      have HGK := Lib.hid hgk; clear hgk
      by_cases hlt : j < n1
      · obtain ⟨x, hx⟩ := get_of_lt HN1.out hlt
        obtain ⟨b1, off1, rfl, hb1, h1⟩ := H1.out j x hx
        have g1 := ((HB9.out.trans (hbel.out.mono HB9.out.size)).cell (p := ⟨b1, off1 + j, none⟩) hb1).trans h1
        clear h1 hx
        go_wp2_with fail
        go_roundg (n1 - (j + 1))
        case measure => rw [HGK.out]; omega
        case rel => exact ⟨j+1, rfl, by omega, rfl, by go_num, hbel.out⟩
      · obtain rfl : j = n1 := by omega
        have HQ := Lib.hid (equalS_any [] A13 none 0 c13 0 wr rfl (by omega) StepsAt.nil StepsAt.nil)
        go_wp2_with fail
        refine HQ.out.mono ?_
        rintro e w12 ⟨rfl, hb13⟩
        have HB13 := Lib.hid (HB9.out.trans ((hbel.out.trans (hb13.mono hbel.out.size)).mono HB9.out.size))
        clear hb13
        go_wp2_with fail
        go_ret
        exact ⟨rfl, HB13.out⟩

set_option maxRecDepth 40000 in
theorem orderChecks_walk {H : Type} {enc : TypeId × Value → H} (W : World) (v0 v1 v2 v3 : Value) {d0 d1 d2 d3 : DataW H} {p0 p1 p2 p3 : List MemPlace} {base : Nat}
    (h0 : DataW.Trod enc Try.prog W 0 (fun _ => true) true 29 v0 d0 p0) (h1 : DataW.Trod enc Try.prog W 0 (fun _ => true) true 23 v1 d1 p1) (h2 : DataW.Trod enc Try.prog W 0 (fun _ => true) true 23 v2 d2 p2) (h3 : DataW.Trod enc Try.prog W 0 (fun _ => true) true 46 v3 d3 p3)
    (o0 : Value.okWide Try.prog W .any base 29 v0) (o1 : Value.okWide Try.prog W .any base 23 v1) (o2 : Value.okWide Try.prog W .any base 23 v2) (o3 : Value.okWide Try.prog W .any base 46 v3)
    (w0 : Light Try.prog 29 d0) (w1 : Light Try.prog 23 d1) (w2 : Light Try.prog 23 d2) (w3 : Light Try.prog 46 d3) :
    Calls Try.prog 8 #[v0, v1, v2, v3] W fun e W' => e = .returned (.bool true) ∧ Below W.heap.size W W' := by
  obtain ⟨A0, n0, c0, rfl⟩ := okWide_slice Try.underlying29 o0
  obtain ⟨fuel0, hf0⟩ := h0
  obtain ⟨A0', c0', rs, hv0, hm0, hr0⟩ := open_rows Try.underlying29 Try.underlying23 Try.underlying3 (by kernel_rfl) (by kernel_rfl) (v := .slice A0 n0 c0) hf0 w0
  injection hv0 with e1 e2 e3
  subst e1 e2 e3
  obtain ⟨A1, n1, c1, rfl⟩ := okWide_slice Try.underlying23 o1
  obtain ⟨fuel, hf⟩ := h1
  obtain ⟨A1', c1', ss, hv, hlc, hm, hrb, hi, hb⟩ := open_ints_at Try.underlying23 Try.underlying3 (by kernel_rfl) (v := .slice A1 n1 c1) hf w1
  injection hv with e1 e2 e3
  subst e1 e2 e3
  obtain ⟨A2, n2, c2, rfl⟩ := okWide_slice Try.underlying23 o2
  obtain ⟨fuel2, hf2⟩ := h2
  obtain ⟨A2', c2', bs, hv2, hlc2, hm2, hrb2, hi2, hb2⟩ := open_ints_at Try.underlying23 Try.underlying3 (by kernel_rfl) (v := .slice A2 n2 c2) hf2 w2
  injection hv2 with e1 e2 e3
  subst e1 e2 e3
  obtain ⟨A3, c3, ls, rfl, hl3, hc3, hm3, hi3⟩ := open_steps h3 o3 w3
  have hb8 : Try.prog.bytesOf 3 = 8 := by kernel_rfl
  rw [hb8] at hrb
  unfold reachBytes at hrb
  unfold maxLen at hm hm2
  exact orderChecks_core rs A0 _ c0 ss A1 _ _ bs A2 _ _ ls A3 _ _ W rfl hm0 hr0 rfl (by omega) hlc hi rfl (by omega) hi2 hb2 rfl hm3 hi3
end Go.Proofs.Ytogjfmgecnoceaa
