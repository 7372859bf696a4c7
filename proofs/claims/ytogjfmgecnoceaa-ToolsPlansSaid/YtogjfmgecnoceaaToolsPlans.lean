/- ToolsPlans: Plan, Right and End return what the reference says, for every list of tasks and all starts: the walk of the law, with no condition. -/
import Derived.Test.YtogjfmgecnoceaaToolsZ
namespace Go.Proofs.Ytogjfmgecnoceaa
open Go.RowKit Go.ChangeShapes Go.WideShapes Go.Deep
set_option linter.unusedVariables false
set_option linter.unusedSimpArgs false

theorem planL_bd (ts : List Tk) : ∀ x ∈ planL ts, 0 ≤ x ∧ x ≤ 2000 := by
  unfold planL
  split
  · rename_i h0
    cases h : pfold ts ts with
    | none => simp
    | some s =>
      have h1 : pfold ts (ts.take ts.length) = some s := by rw [List.take_length]; exact h
      exact (pfold_inv h0 h1 (Nat.le_refl _)).bd
  · simp
/-- one of the two lists of starts -/
structure Two (w : World) (g : Nat) (A1 A7 : Option Addr) (n1 c1 n7 c7 : Nat) (xs ys : List Int) : Prop where
  blk : Blk w g 23 #[.slice A1 n1 c1, .slice A7 n7 c7]
  one : n1 = xs.length ∧ n1 ≤ 9223372036854775807 ∧ IntsAt w w.heap.size A1 xs ∧ ∀ x ∈ xs, -9223372036854775808 ≤ x ∧ x ≤ 9223372036854775807
  two : n7 = ys.length ∧ n7 ≤ 9223372036854775807 ∧ IntsAt w w.heap.size A7 ys ∧ ∀ x ∈ ys, -9223372036854775808 ≤ x ∧ x ≤ 9223372036854775807
theorem Two.next {w w' : World} {g : Nat} {A1 A7 : Option Addr} {n1 c1 n7 c7 : Nat} {xs ys : List Int} (h : Two w g A1 A7 n1 c1 n7 c7 xs ys) (hb : Below w.heap.size w w') : Two w' g A1 A7 n1 c1 n7 c7 xs ys :=
  ⟨h.blk.belowB hb, ⟨h.one.1, h.one.2.1, h.one.2.2.1.next hb, h.one.2.2.2⟩, ⟨h.two.1, h.two.2.1, h.two.2.2.1.next hb, h.two.2.2.2⟩⟩
theorem Two.at_ {w : World} {g : Nat} {A1 A7 : Option Addr} {n1 c1 n7 c7 : Nat} {xs ys : List Int} (h : Two w g A1 A7 n1 c1 n7 c7 xs ys) {j : Nat} (hj : j < 2) :
    ∃ A n c zs, w.cell? ⟨g, j, none⟩ = some (.slice A n c) ∧ n = zs.length ∧ n ≤ 9223372036854775807 ∧ (∀ w', Below w.heap.size w w' → IntsAt w' w'.heap.size A zs) ∧ ∀ x ∈ zs, -9223372036854775808 ≤ x ∧ x ≤ 9223372036854775807 := by
  match j, hj with
  | 0, _ => exact ⟨A1, n1, c1, xs, h.blk.cell 0, h.one.1, h.one.2.1, fun w' hb => h.one.2.2.1.next hb, h.one.2.2.2⟩
  | 1, _ => exact ⟨A7, n7, c7, ys, h.blk.cell 1, h.two.1, h.two.2.1, fun w' hb => h.two.2.2.1.next hb, h.two.2.2.2⟩
/-- what holds at each round -/
structure PS (w : World) (g : Nat) (A1 A7 : Option Addr) (n1 c1 n7 c7 : Nat) (xs ys : List Int) (wr : World) : Prop where
  bel : Below w.heap.size w wr
  two : Two wr g A1 A7 n1 c1 n7 c7 xs ys
theorem PS.next {w wr w' : World} {g : Nat} {A1 A7 : Option Addr} {n1 c1 n7 c7 : Nat} {xs ys : List Int} (h : PS w g A1 A7 n1 c1 n7 c7 xs ys wr) (hb : Below wr.heap.size wr w') : PS w g A1 A7 n1 c1 n7 c7 xs ys w' := ⟨h.bel.trans (hb.mono h.bel.size), h.two.next hb⟩

set_option maxHeartbeats 8000000 in
set_option maxRecDepth 40000 in
theorem toolsPlans_core (ts : List Tk) (A : Option Addr) (n c : Nat) (ss : List Int) (A1 : Option Addr) (n1 c1 : Nat) (w : World) (hn : n = ts.length) (hm : n ≤ 9223372036854775807) (h : TasksAt w w.heap.size A ts) (hn1 : n1 = ss.length) (hm1 : n1 ≤ 9223372036854775807) (hs : IntsAt w w.heap.size A1 ss) (hb : ∀ x ∈ ss, -9223372036854775808 ≤ x ∧ x ≤ 9223372036854775807) :
    Calls Try.prog 3 #[.slice A n c, .slice A1 n1 c1] w fun e w' => e = .returned (.bool true) ∧ Below w.heap.size w w' := by
  have KEEP : Hid (∀ {W : World}, Below w.heap.size w W → TasksAt W W.heap.size A ts) := fun {W} hb => h.next hb
  have HN := Lib.hid hn; clear hn
  have H := Lib.hid h; clear h
  have HONE := Lib.hid (And.intro hn1 (And.intro hm1 (And.intro hs hb))); clear hn1 hs hb
  generalize hpe : planE ts = pe at *
  have HPE := Lib.hid hpe; clear hpe
  go_enter Try.func3, Try.ntmps3
  go_wp2_with fail
  refine (plan_any ts A n c _ HN.out hm H.out).mono ?_
  rintro e w1 ⟨v5, rfl, ⟨A5, c5, rfl, hl5, hm5, hi5⟩, hb1⟩
  rw [HPE.out]
  have HI5 := Lib.hid hi5; clear hi5
  generalize hn5 : (planL ts).length = n5 at *
  have HN5 := Lib.hid hn5; clear hn5
  go_wp2_with fail
  refine (planof_any ts A n c _ HN.out hm (KEEP.out hb1)).mono ?_
  rintro e w2 ⟨v7, rfl, ⟨A7, c7, rfl, hl7, hm7, hi7⟩, hb2⟩
  rw [HPE.out, HN5.out]
  rw [HN5.out] at hl7
  have HI7 := Lib.hid hi7; clear hi7
  have hbw2 : Below w.heap.size w w2 := hb1.trans (hb2.mono hb1.size)
  unfold maxLen at hm5 hm7
  go_wp2_with fail
  refine (tooled_any _).mono ?_
  rintro e w3 ⟨rfl, hb3⟩
  have hbw3 : Below w.heap.size w w3 := hbw2.trans (hb3.mono hbw2.size)
  go_wp2_with fail
  refine (equalI_any (planL ts) (planL ts) A5 A7 n5 n5 _ _ _ HN5.out.symm HN5.out.symm (by omega) (by omega) ((HI5.out.next hb2).next hb3) (HI7.out.next hb3) (decide_eq_true rfl)).mono ?_
  rintro e w4 ⟨rfl, hb4⟩
  have hbw4 : Below w.heap.size w w4 := hbw3.trans (hb4.mono hbw3.size)
  go_wp2_with fail
  have HPS : Hid (PS w w4.heap.size A1 A7 n1 c1 n5 c7 ss (planL ts) (w4.alloc (.cells #[.slice A1 n1 c1, .slice A7 n5 c7] 23))) := by
    have hba : Below w4.heap.size w4 (w4.alloc (.cells #[.slice A1 n1 c1, .slice A7 n5 c7] 23)) := (Below.refl _ _).alloc (Nat.le_refl _) _
    refine ⟨hbw4.trans (hba.mono hbw4.size), Blk.new _ _ _, ⟨HONE.out.1, HONE.out.2.1, (HONE.out.2.2.1.next hbw4).next hba, HONE.out.2.2.2⟩, ⟨HN5.out.symm, by omega, ((HI7.out.next hb3).next hb4).next hba, fun x hx => ?_⟩⟩
    have := planL_bd ts x hx
    omega
  generalize hg : w4.heap.size = g at *
  have HG := Lib.hid hg; clear hg
  go_loopg [44] 2 (fun k i wr => ∃ j : Nat, k = 2 - j ∧ j ≤ 2 ∧ i = .int .i64 j ∧ Hid (PS w g A1 A7 n1 c1 n5 c7 ss (planL ts) wr))
  case atStart => exact ⟨0, by omega, by omega, rfl, HPS.out⟩
  case round =>
    obtain ⟨j, hgk, hj, rfl, hps⟩ := hrel
    have HGK := Lib.hid hgk; clear hgk
    by_cases hlt : j < 2
    · obtain ⟨A2, n2, c2, zs, h0, hn2, hm2, hi2, hb2'⟩ := hps.out.two.at_ hlt
      have HN2 := Lib.hid hn2; clear hn2
      have HI2 := Lib.hid hi2; clear hi2
      have HB2 := Lib.hid hb2'; clear hb2'
      cases hf : fits ts zs with
      | false =>
        have HV := Lib.hid (show endV ts zs = 0 ∧ endE ts zs = 1 by simp [endV, endE, hf])
        have HF := Lib.hid hf; clear hf
        go_wp2_with fail
        refine (fit_any ts A n c zs A2 n2 c2 _ HN.out hm (KEEP.out hps.out.bel) HN2.out hm2 (HI2.out _ (Below.refl _ _)) HB2.out).mono ?_
        rw [HF.out]
        rintro e w5 ⟨rfl, hb5⟩
        have hps5 := hps.out.next hb5
        clear h0
        go_wp2_with fail
        refine (end_any ts A n c zs A2 n2 c2 _ HN.out hm (KEEP.out hps5.bel) HN2.out hm2 (HI2.out _ hb5) HB2.out).mono ?_
        rw [HV.out.1, HV.out.2]
        rintro e w6 ⟨rfl, hb6⟩
        have hps6 := hps5.next hb6
        have hb56 : Below wr.heap.size wr w6 := hb5.trans (hb6.mono hb5.size)
        go_wp2_with fail
        go_loopg [14, 59] n (fun k s i wi => ∃ q : Nat, k = n - q ∧ q ≤ n ∧ i = .int .i64 q ∧ s = .int .i64 0 ∧ Hid (Below w6.heap.size w6 wi))
        case atStart => exact ⟨0, by omega, Nat.zero_le _, rfl, rfl, Below.refl _ _⟩
        case round =>
          obtain ⟨q, hgk2, hq, rfl, rfl, hbel⟩ := hrel
          have HGK2 := Lib.hid hgk2; clear hgk2
          have hps7 := hps6.next hbel.out
          by_cases hlt2 : q < n
          · obtain ⟨t, ht⟩ := get_of_lt HN.out hlt2
            obtain ⟨b, off, rfl, hb, h0, h1, h2, hxm, hx⟩ := H.out q t ht
            clear hx ht
            have g0 := (hps7.bel.cell (p := ⟨b, off + q*3, none⟩) hb).trans h0
            have g1 := (hps7.bel.cell (p := ⟨b, off + q*3+1, none⟩) hb).trans h1
            have g2 := (hps7.bel.cell (p := ⟨b, off + q*3+2, none⟩) hb).trans h2
            clear h0 h1 h2 hps7
            have hz := hbel.out.size
            go_wp2_with fail
            go_roundg (n - (q + 1))
            case measure => rw [HGK2.out]; omega
            case rel => exact ⟨q+1, rfl, by omega, by go_num, rfl, hbel.out.alloc hz _⟩
          · obtain rfl : q = n := by omega
            go_wp2_with fail
            refine (right_any ts A q c zs A2 n2 c2 _ HN.out hm (KEEP.out hps7.bel) HN2.out hm2 (HI2.out _ (hb56.trans (hbel.out.mono hb56.size))) HB2.out).mono ?_
            rw [HF.out]
            rintro e w8 ⟨rfl, hb8⟩
            have hps8 := hps7.next hb8
            go_wp2_with fail
            go_roundg (2 - (j + 1))
            case measure => rw [HGK.out]; omega
            case rel => exact ⟨j+1, rfl, by omega, by go_num, hps8⟩
      | true =>
        have HV := Lib.hid (show endV ts zs = endK ts zs n ∧ endE ts zs = 0 by rw [HN.out]; simp [endV, endE, hf])
        obtain ⟨hE, hL, hK⟩ := fits_inv hf
        have HBD := Lib.hid (fun k (hk : k ≤ n) => endK_bd hf (by rw [← HN.out]; exact hk))
        have HI := Lib.hid (And.intro hE (And.intro hL hK)); clear hE hL hK
        have HF := Lib.hid hf; clear hf
        obtain rfl : n2 = n := by rw [HN.out, HN2.out]; exact HI.out.2.1
        go_wp2_with fail
        refine (fit_any ts A n2 c zs A2 n2 c2 _ HN.out hm (KEEP.out hps.out.bel) HN2.out hm2 (HI2.out _ (Below.refl _ _)) HB2.out).mono ?_
        rw [HF.out]
        rintro e w5 ⟨rfl, hb5⟩
        have hps5 := hps.out.next hb5
        clear h0
        go_wp2_with fail
        refine (end_any ts A n2 c zs A2 n2 c2 _ HN.out hm (KEEP.out hps5.bel) HN2.out hm2 (HI2.out _ hb5) HB2.out).mono ?_
        rw [HV.out.1, HV.out.2]
        rintro e w6 ⟨rfl, hb6⟩
        have hps6 := hps5.next hb6
        have hb56 : Below wr.heap.size wr w6 := hb5.trans (hb6.mono hb5.size)
        have HI6 := Lib.hid (HI2.out _ hb56)
        generalize hev : endK ts zs n2 = ev at *
        have HEV := Lib.hid hev; clear hev
        go_wp2_with fail
        go_loopg [14, 59] n2 (fun k s i wi => ∃ q : Nat, k = n2 - q ∧ q ≤ n2 ∧ i = .int .i64 q ∧ s = .int .i64 (endK ts zs q) ∧ Hid (Below w6.heap.size w6 wi))
        case atStart => exact ⟨0, by omega, Nat.zero_le _, rfl, rfl, Below.refl _ _⟩
        case round =>
          obtain ⟨q, hgk2, hq, rfl, rfl, hbel⟩ := hrel
          have HGK2 := Lib.hid hgk2; clear hgk2
          have hps7 := hps6.next hbel.out
          by_cases hlt2 : q < n2
          · obtain ⟨t, ht⟩ := get_of_lt HN.out hlt2
            obtain ⟨s, hs⟩ := get_of_lt HN2.out hlt2
            obtain ⟨b, off, rfl, hb, h0, h1, h2, hxm, hx⟩ := H.out q t ht
            obtain ⟨bs, offs, rfl, hbs, hs0⟩ := HI6.out q s hs
            have HS := Lib.hid (show endK ts zs (q+1) = max (endK ts zs q) (s + t.l) by simp [endK, st, lo, hs, ht])
            obtain ⟨z1, z2⟩ := fitK_inv ht hs (HI.out.2.2 q (by rw [← HN.out]; exact hlt2))
            obtain ⟨-, -, q3, q4⟩ := okT_iff.1 (tkAt_inv ht ((tErr_zero HI.out.1).2 q (by rw [← HN.out]; exact hlt2))).1
            obtain ⟨v1, v2⟩ := HBD.out q hq
            clear ht hs hx
            have g0 := (hps7.bel.cell (p := ⟨b, off + q*3, none⟩) hb).trans h0
            have g1 := (hps7.bel.cell (p := ⟨b, off + q*3+1, none⟩) hb).trans h1
            have g2 := (hps7.bel.cell (p := ⟨b, off + q*3+2, none⟩) hb).trans h2
            have HS0 := Lib.hid hs0
            clear h0 h1 h2 hs0 hps7
            have hz := hbel.out.size
            obtain ⟨tt, tl, tA, tc, txs⟩ := t
            dsimp only at g0 g1 g2 hxm z2 q3 q4 HS
            generalize endK ts zs q = ev2 at *
            generalize hmm : txs.length = m at *
            go_wp2_with fail
            clear g0 g1 g2
            have hb0 := Lib.hid (hbel.out.alloc hz (.cells #[.int .i64 tt, .int .i64 tl, .slice tA m tc] 34))
            have HB0 := Lib.hid (Blk.new wr 34 #[.int .i64 tt, .int .i64 tl, .slice tA m tc])
            clear hbel hz
            generalize hg2 : wr.heap.size = g2 at *
            have HG2 := Lib.hid hg2; clear hg2
            generalize wr.alloc (.cells #[.int .i64 tt, .int .i64 tl, .slice tA m tc] 34) = wo at *
            have gs := (hb0.out.cell (p := ⟨bs, offs + q, none⟩) hbs).trans HS0.out
            have e1 := HB0.out.cell 1
            simp only [List.getElem?_toArray, List.getElem?_cons_zero, List.getElem?_cons_succ] at e1
            have i1 : (0 : Int) ≤ (q : Int) := by omega
            have i2 : (q : Int) < (n2 : Int) := by omega
            have hw := i64_p (s + tl) (by omega) (by omega)
            go_quiet (fail)
            clear hw
            go_wp2_with fail
            all_goals
              go_roundg (n2 - (q + 1))
              case measure => rw [HGK2.out]; omega
              case rel => exact ⟨q+1, rfl, by omega, by go_num, by rw [HS.out]; first | rw [Int.max_eq_left (by omega)] | rw [Int.max_eq_right (by omega)], below_drewN hb0.out _⟩
          · obtain rfl : q = n2 := by omega
            rw [HEV.out]
            go_wp2_with fail
            refine (right_any ts A q c zs A2 q c2 _ HN.out hm (KEEP.out hps7.bel) HN2.out hm2 (HI2.out _ (hb56.trans (hbel.out.mono hb56.size))) HB2.out).mono ?_
            rw [HF.out]
            rintro e w8 ⟨rfl, hb8⟩
            have hps8 := hps7.next hb8
            go_wp2_with fail
            go_roundg (2 - (j + 1))
            case measure => rw [HGK.out]; omega
            case rel => exact ⟨j+1, rfl, by omega, by go_num, hps8⟩
    · go_wp2_with fail
      go_ret
      exact ⟨rfl, hps.out.bel⟩

set_option maxRecDepth 40000 in
theorem toolsPlans_walk {H : Type} {enc : TypeId × Value → H} (W : World) (v0 v1 : Value) {d0 d1 : DataW H} {p0 p1 : List MemPlace} {base : Nat}
    (h0 : DataW.Trod enc Try.prog W 0 (fun _ => true) true 22 v0 d0 p0) (h1 : DataW.Trod enc Try.prog W 0 (fun _ => true) true 23 v1 d1 p1)
    (o0 : Value.okWide Try.prog W .any base 22 v0) (o1 : Value.okWide Try.prog W .any base 23 v1) (w0 : Light Try.prog 22 d0) (w1 : Light Try.prog 23 d1) :
    Calls Try.prog 3 #[v0, v1] W fun e W' => e = .returned (.bool true) ∧ Below W.heap.size W W' := by
  obtain ⟨A, c, ts, rfl, hl, ht⟩ := open_tasks h0 o0 w0
  obtain ⟨A1, n1, c1, rfl⟩ := okWide_slice Try.underlying23 o1
  obtain ⟨fuel, hf⟩ := h1
  obtain ⟨A1', c1', ss, hv, hlc, hm, _, hi, hb⟩ := open_ints_at Try.underlying23 Try.underlying3 (by kernel_rfl) (v := .slice A1 n1 c1) hf w1
  injection hv with e1 e2 e3
  subst e1 e2 e3
  exact toolsPlans_core ts A _ c ss A1 _ _ W rfl hl ht rfl (by unfold maxLen at hm; omega) hi hb
end Go.Proofs.Ytogjfmgecnoceaa
