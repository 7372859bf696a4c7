/- Walks: Valid, Clash, Check (package tools) and UseIs (reference). -/
import Derived.Test.YtogjfmgecnoceaaProg
import Derived.Test.YtogjfmgecnoceaaToolsP
import Derived.Outline
import Derived.Deep.LoopGhost
namespace Go.Proofs.Ytogjfmgecnoceaa
open Go.RowKit
set_option linter.unusedVariables false
set_option linter.unusedSimpArgs false

theorem valid_any (t f l : Int) (w : World) :
    Calls Try.prog 85 #[.agg #[.int .i64 t, .int .i64 f, .int .i64 l]] w fun e w' => e = .returned (.bool (okU ⟨t,f,l⟩)) ∧ Below w.heap.size w w' := by
  go_enter Try.func85, Try.ntmps85
  go_wp2
  all_goals
    go_ret
    refine ⟨ret_bool ?_, (Below.refl _ _).alloc (Nat.le_refl _) _⟩
    rw [Bool.eq_iff_iff, okU_iff]; simp only [decide_eq_true_eq, Bool.false_eq_true, false_iff]; omega
theorem valid_is (t f l : Int) (w : World) {b : Bool} (h : okU ⟨t,f,l⟩ = b) :
    Calls Try.prog 85 #[.agg #[.int .i64 t, .int .i64 f, .int .i64 l]] w fun e w' => e = .returned (.bool b) ∧ Below w.heap.size w w' := h ▸ valid_any t f l w

theorem useis_any (t f l : Int) (w : World) :
   Calls Try.prog 86 #[.agg #[.int .i64 t, .int .i64 f, .int .i64 l]] w fun e w' => e = .returned (.bool (okU ⟨t,f,l⟩)) ∧ Below w.heap.size w w' := by
 go_enter Try.func86, Try.ntmps86
 go_wp2
 all_goals
   go_ret
   refine ⟨ret_bool ?_, (Below.refl _ _).alloc (Nat.le_refl _) _⟩
   rw [Bool.eq_iff_iff, okU_iff]; simp only [decide_eq_true_eq, Bool.false_eq_true, false_iff]; omega
theorem useis_is (t f l : Int) (w : World) {b : Bool} (h : okU ⟨t,f,l⟩ = b) :
   Calls Try.prog 86 #[.agg #[.int .i64 t, .int .i64 f, .int .i64 l]] w fun e w' => e = .returned (.bool b) ∧ Below w.heap.size w w' := h ▸ useis_any t f l w

theorem clash_any (a b : U) (w : World) :
    Calls Try.prog 129 #[a.v, b.v] w fun e w' => e = .returned (.bool (clashU a b)) ∧ Below w.heap.size w w' := by
  obtain ⟨t, f, l⟩ := a
  obtain ⟨t', f', l'⟩ := b
  cases ha : okU ⟨t, f, l⟩ with
  | false =>
    have HA := Lib.hid ha; clear ha
    go_enter Try.func129, Try.ntmps129
    go_wp2_with (go_at_call 85; refine (valid_is _ _ _ _ HA.out).mono ?_; rintro e w1 ⟨rfl, hb1⟩)
    go_ret
    refine ⟨ret_bool ?_, ?_⟩
    · simp [clashU, HA.out]
    · exact (((Below.refl _ _).alloc (Nat.le_refl _) _).alloc (by simp) _).trans (hb1.mono (by simp; omega))
  | true =>
    cases hb : okU ⟨t', f', l'⟩ with
    | false =>
      have HA := Lib.hid ha; clear ha
      have HB := Lib.hid hb; clear hb
      go_enter Try.func129, Try.ntmps129
      go_wp2_with (first | (go_at_call 85; ((with_reducible refine (valid_is _ _ _ _ HA.out).mono ?_); rintro e w1 ⟨rfl, hb1⟩; obtain ⟨hc1, hf1⟩ := bcell hb1)) | (go_at_call 85; ((with_reducible refine (valid_is _ _ _ _ HB.out).mono ?_); rintro e w2 ⟨rfl, hb2⟩)))
      go_ret
      refine ⟨ret_bool ?_, ?_⟩
      · simp [clashU, HB.out]
      · exact ((((Below.refl _ _).alloc (Nat.le_refl _) _).alloc (by simp) _).trans (hb1.mono (by simp; omega))).trans (hb2.mono (by have := hb1.size; simp at this; omega))
    | true =>
      obtain ⟨_, _, _, _, _, _⟩ := okU_iff.1 ha
      obtain ⟨_, _, _, _, _, _⟩ := okU_iff.1 hb
      have HA := Lib.hid ha; clear ha
      have HB := Lib.hid hb; clear hb
      go_enter Try.func129, Try.ntmps129
      go_wp2_with (first | (go_at_call 85; ((with_reducible refine (valid_is _ _ _ _ HA.out).mono ?_); rintro e w1 ⟨rfl, hb1⟩; obtain ⟨hc1, hf1⟩ := bcell hb1)) | (go_at_call 85; ((with_reducible refine (valid_is _ _ _ _ HB.out).mono ?_); rintro e w2 ⟨rfl, hb2⟩; obtain ⟨hc2, hf2⟩ := bcell hb2; obtain ⟨hz0, hz1⟩ : w.heap.size < w1.heap.size ∧ w.heap.size + 1 < w1.heap.size := by have := hb1.size; simp at this; omega)))
      all_goals
        go_ret
        refine ⟨ret_bool ?_, ((((Below.refl _ _).alloc (Nat.le_refl _) _).alloc (by simp) _).trans (hb1.mono (by simp; omega))).trans (hb2.mono (by omega))⟩
        rw [Bool.eq_iff_iff]; simp only [clashU, Bool.and_eq_true, okU_iff, decide_eq_true_eq, Bool.false_eq_true, false_iff]; omega
theorem clash_is (a b : U) (w : World) {c : Bool} (h : clashU a b = c) :
    Calls Try.prog 129 #[a.v, b.v] w fun e w' => e = .returned (.bool c) ∧ Below w.heap.size w w' := h ▸ clash_any a b w

set_option maxHeartbeats 400000 in
theorem check_any (us : List U) (A : Option Addr) (n c : Nat) (w : World) (hn : n = us.length) (hnc : n ≤ c) (hm : c ≤ maxLen) (h : UsesAt w w.heap.size A us) :
    Calls Try.prog 88 #[.slice A n c] w fun e w' => e = .returned (.int .i64 (chk us)) ∧ Below w.heap.size w w' := by
  have HN := Lib.hid hn; clear hn
  have H := Lib.hid h; clear h
  unfold maxLen at hm
  by_cases h60 : 60 < n
  · go_enter Try.func88, Try.ntmps88
    go_wp2
    go_ret
    exact ⟨ret_int (chk_large (by rw [← HN.out]; exact h60)).symm, Below.refl _ _⟩
  · have H60 : ¬ 60 < us.length := by rw [← HN.out]; exact h60
    go_enter Try.func88, Try.ntmps88
    go_wp2_with fail
    go_loopw [12] (fun i wr => ∃ k : Nat, k ≤ n ∧ i = .int .i64 k ∧ Hid (∀ j < k, chkAt us j = none) ∧ Hid (Below w.heap.size w wr)) (fun i _ => n - (intOf i).toNat)
    case atStart => exact ⟨0, Nat.zero_le _, rfl, forall_lt_zero, Below.refl _ _⟩
    case round =>
      obtain ⟨k, hk, rfl, hall, hbel⟩ := hrel
      by_cases hlt : k < n
      · obtain ⟨u, hu⟩ := get_of_lt HN.out hlt
        obtain ⟨b, off, rfl, hb, h0, h1, h2⟩ := H.out k u hu
        have HU := Lib.hid hu; clear hu
        have g0 := (hbel.out.cell (p := ⟨b, off + k*3, none⟩) hb).trans h0
        have g1 := (hbel.out.cell (p := ⟨b, off + k*3+1, none⟩) hb).trans h1
        have g2 := (hbel.out.cell (p := ⟨b, off + k*3+2, none⟩) hb).trans h2
        clear h0 h1 h2
        have hz := hbel.out.size
        cases hok : okU u with
        | false =>
          have HK := Lib.hid hok; clear hok
          go_wp2_with fail
          refine (valid_is _ _ _ _ HK.out).mono ?_
          rintro e w1 ⟨rfl, hb1⟩
          go_wp2_with fail
          go_ret
          exact ⟨ret_int (chk_some H60 (by rw [← HN.out]; exact hlt) hall.out (chkAt_bad HU.out HK.out)).symm, (hbel.out.alloc hz _).trans (hb1.mono (by simp; omega))⟩
        | true =>
          have HK := Lib.hid hok; clear hok
          go_wp2_with fail
          refine (valid_is _ _ _ _ HK.out).mono ?_
          rintro e w1 ⟨rfl, hb1⟩
          have hbw : Below w.heap.size w w1 := (hbel.out.alloc hz _).trans (hb1.mono (by simp; omega))
          obtain ⟨hc1, hf1⟩ := bcell hb1
          have hz1 : wr.heap.size < w1.heap.size := by have := hb1.size; simp at this; omega
          have e0 : w1.cell? ⟨wr.heap.size, 0, none⟩ = some (.int .i64 u.t) := by rw [hc1 _ _ (by simp)]; simp
          have e1 : w1.cell? ⟨wr.heap.size, 1, none⟩ = some (.int .i64 u.f) := by rw [hc1 _ _ (by simp)]; simp
          have e2 : w1.cell? ⟨wr.heap.size, 2, none⟩ = some (.int .i64 u.l) := by rw [hc1 _ _ (by simp)]; simp
          clear hc1 hf1 g0 g1 g2
          have HE := Lib.hid (And.intro e0 (And.intro e1 e2)); clear e0 e1 e2
          generalize hg : wr.heap.size = g at *
          go_wp2_with fail
          go_loopw [24] (fun i wi => ∃ j : Nat, j ≤ k ∧ i = .int .i64 j ∧ Hid (∀ j' < j, ∀ v, us[j']? = some v → clashU u v = false) ∧ Hid (Below w1.heap.size w1 wi)) (fun i _ => k - (intOf i).toNat)
          case atStart => exact ⟨0, Nat.zero_le _, rfl, forall_lt_zero, Below.refl _ _⟩
          case round =>
            obtain ⟨j, hj, rfl, hall2, hbel2⟩ := hrel
            obtain ⟨e0, e1, e2⟩ := HE.out
            rw [← hbel2.out.cell (p := ⟨g, _, none⟩) hz1] at e0 e1 e2
            by_cases hlt2 : j < k
            · obtain ⟨v, hv⟩ := get_of_lt HN.out (Nat.lt_trans hlt2 hlt)
              obtain ⟨b', off', hAA, hb', h0, h1, h2⟩ := H.out j v hv
              cases hAA
              have g0 := ((hbw.trans (hbel2.out.mono hbw.size)).cell (p := ⟨b, off + j*3, none⟩) hb).trans h0
              have g1 := ((hbw.trans (hbel2.out.mono hbw.size)).cell (p := ⟨b, off + j*3+1, none⟩) hb).trans h1
              have g2 := ((hbw.trans (hbel2.out.mono hbw.size)).cell (p := ⟨b, off + j*3+2, none⟩) hb).trans h2
              have HV := Lib.hid hv; clear hv h0 h1 h2 hb'
              have HBW := Lib.hid hbw; clear hbw
              have HZ := hbel2.out.size
              have HG := Nat.lt_of_lt_of_le hz1 HZ
              cases hcl : clashU u v with
              | true =>
                have HC := Lib.hid hcl; clear hcl
                go_wp2_with fail
                refine (clash_is u v _ HC.out).mono ?_
                rintro e w2 ⟨rfl, hb2⟩
                go_wp2_with fail
                go_ret
                exact ⟨ret_int (chk_some H60 (by rw [← HN.out]; exact hlt) hall.out (chkAt_clash HU.out HK.out HV.out hlt2 HC.out)).symm, (HBW.out.trans ((hbel2.out.mono HBW.out.size).alloc (by have := HBW.out.size; omega) _)).trans (hb2.mono (by have := HBW.out.size; simp; omega))⟩
              | false =>
                have HC := Lib.hid hcl; clear hcl
                go_wp2_with fail
                refine (clash_is u v _ HC.out).mono ?_
                rintro e w2 ⟨rfl, hb2⟩
                go_wp2_with fail
                go_roundw
                case rel => exact ⟨j+1, by omega, by go_num, forall_lt_succ hall2.out (fun v' hv' => by rw [HV.out] at hv'; cases hv'; exact HC.out), (hbel2.out.alloc HZ _).trans (hb2.mono (by simp; omega))⟩
                case measure => simp [intOf]; omega
            · go_wp2_with fail
              go_roundw
              case rel => exact ⟨k+1, by omega, by go_num, forall_lt_succ hall.out (chkAt_ok HU.out HK.out (by rw [show k = j by omega]; exact hall2.out)), hbw.trans (hbel2.out.mono hbw.size)⟩
              case measure => simp [intOf]; omega
      · go_wp2_with fail
        go_ret
        obtain rfl : k = n := by omega
        exact ⟨ret_int (chk_none H60 (by rw [← HN.out]; exact hall.out)).symm, hbel.out⟩
end Go.Proofs.Ytogjfmgecnoceaa
