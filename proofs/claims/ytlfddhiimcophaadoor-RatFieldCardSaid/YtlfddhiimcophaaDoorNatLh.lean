/- Walks of package nat: Gcd. -/
import Derived.Test.YtlfddhiimcophaaDoorNatLg
namespace Go.Proofs.YtlfddhiimcophaaDoor
open Go.RowKit
set_option linter.unusedVariables false
set_option linter.unusedSimpArgs false

theorem S_cat0 (n : Nat) : S n ++ S 0 = S n := by
  apply ba_eq
  show (S n ++ S 0).data.toList = _
  simp [S]
  rfl
theorem S_0cat (n : Nat) : S 0 ++ S n = S n := by
  apply ba_eq
  show (S 0 ++ S n).data.toList = _
  simp [S]
  rfl
theorem gcd_short {a b : Nat} (h : (bstr b).length ≤ (bstr a).length) (ha : (bstr a).length ≤ 8) : a < 256 ^ 8 ∧ b < 256 ^ 8 := ⟨bstr_length_le.1 ha, bstr_length_le.1 (Nat.le_trans h ha)⟩

set_option maxHeartbeats 4000000 in
set_option maxRecDepth 20000 in
theorem gcd_S (m n : Nat) (w : World) (hm : (bstr m).length ≤ 35184372088832) (hn : (bstr n).length ≤ 35184372088832) (hT : Tab w) :
    Calls Tryd.prog 41 #[.string (S m), .string (S n)] w fun e w' => e = .returned (.string (S (Nat.gcd m n))) ∧ Below w.heap.size w w' := by
  have hmx : (bstr m).length ≤ maxLen := by unfold maxLen; omega
  have hnx : (bstr n).length ≤ maxLen := by unfold maxLen; omega
  have HX := Lib.hid (And.intro (And.intro hm hn) (And.intro hmx (And.intro hnx hT))); clear hm hn hmx hnx hT
  go_enter Tryd.func41, Tryd.ntmps41
  go_wp2_with fail
  refine (trim_S m _ HX.out.2.1).mono ?_
  rintro e w' ⟨rfl, rfl⟩
  go_wp2_with fail
  refine (trim_S n _ HX.out.2.2.1).mono ?_
  rintro e w' ⟨rfl, rfl⟩
  go_wp2_with fail
  go_loopg [0, 1] (m + n) (fun kk s0 s1 wr => ∃ a b : Nat, kk = a + b ∧ s0 = .string (S a) ∧ s1 = .string (S b) ∧ Hid ((bstr a).length ≤ 35184372088832 ∧ (bstr b).length ≤ 35184372088832 ∧ Nat.gcd a b = Nat.gcd m n) ∧ Hid (Below w.heap.size w wr))
  case atStart => exact ⟨m, n, rfl, rfl, rfl, ⟨HX.out.1.1, HX.out.1.2, rfl⟩, Below.refl _ _⟩
  case round =>
    obtain ⟨a, b, hgk, rfl, rfl, hab, hbe⟩ := hrel
    have HGK := Lib.hid hgk; clear hgk
    have hs0 : (S 0).size ≤ 1 := by rw [S_size]; decide
    have hsa : (S a).size ≤ 35184372088832 := by rw [S_size]; exact hab.out.1
    have hsb : (S b).size ≤ 35184372088832 := by rw [S_size]; exact hab.out.2.1
    by_cases ha : a = 0
    · subst ha
      have he : (S 0).toList.isEmpty = true := by rw [S_list]; rfl
      go_wp2_with fail
      go_ret
      exact ⟨by rw [← hab.out.2.2, Nat.gcd_zero_left]; exact congrArg (fun s => Ending.returned (.string s)) (S_0cat b), hbe.out⟩
    · by_cases hb : b = 0
      · subst hb
        have he : (S 0).toList.isEmpty = true := by rw [S_list]; rfl
        have he2 := S_empty_of ha
        go_wp2_with fail
        go_ret
        exact ⟨by rw [← hab.out.2.2, Nat.gcd_zero_right]; exact congrArg (fun s => Ending.returned (.string s)) (S_cat0 a), hbe.out⟩
      · have he := S_empty_of ha
        have he2 := S_empty_of hb
        go_upto_if 22 with (fail)
        go_cut [0, 1] (fun s0 s1 wc => wr = wc ∧ ∃ a' b', s0 = .string (S a') ∧ s1 = .string (S b') ∧ Hid ((bstr a').length ≤ 35184372088832 ∧ (bstr b').length ≤ 35184372088832 ∧ Nat.gcd a' b' = Nat.gcd m n ∧ a' ≠ 0 ∧ b' ≠ 0 ∧ a' + b' = a + b ∧ (bstr b').length ≤ (bstr a').length))
        case first =>
          by_cases hlt : (S a).size < (S b).size
          · go_wp2_with fail
            go_meet
            exact ⟨rfl, b, a, rfl, rfl, hab.out.2.1, hab.out.1, by rw [Nat.gcd_comm]; exact hab.out.2.2, hb, ha, Nat.add_comm _ _, by rw [S_size, S_size] at hlt; omega⟩
          · go_wp2_with fail
            go_meet
            exact ⟨rfl, a, b, rfl, rfl, hab.out.1, hab.out.2.1, hab.out.2.2, ha, hb, rfl, by rw [S_size, S_size] at hlt; omega⟩
        case rest =>
          obtain ⟨rfl, a', b', rfl, rfl, hc⟩ := hcut
          clear he he2 hs0 hsa hsb ha hb
          have hsa : (S a').size ≤ 35184372088832 := by rw [S_size]; exact hc.out.1
          have hsb : (S b').size ≤ 35184372088832 := by rw [S_size]; exact hc.out.2.1
          by_cases h8 : (bstr a').length ≤ 8
          · have hs8 : (S a').size ≤ 8 := by rw [S_size]; exact h8
            have hb8 : (bstr b').length ≤ 8 := Nat.le_trans hc.out.2.2.2.2.2.2 h8
            have hl := gcd_short hc.out.2.2.2.2.2.2 h8
            have HL := Lib.hid (And.intro (And.intro h8 hb8) hl); clear h8 hb8 hl
            go_wp2_with fail
            refine (short_S a' _ HL.out.1.1).mono ?_
            rintro e w' ⟨rfl, rfl⟩
            go_wp2_with fail
            refine (short_S b' _ HL.out.1.2).mono ?_
            rintro e w' ⟨rfl, rfl⟩
            go_wp2_with fail
            refine (common_any a' b' _ HL.out.2.1 HL.out.2.2).mono ?_
            rintro e w' ⟨rfl, nq, rfl⟩
            go_wp2_with fail
            refine (fromShort_any (Nat.gcd a' b') _ (Nat.lt_of_le_of_lt (gcd_le' (Nat.pos_of_ne_zero hc.out.2.2.2.1)) HL.out.2.1)).mono ?_
            rintro e w5 ⟨rfl, hb5⟩
            have HB5 := Lib.hid hb5; clear hb5
            go_wp2_with fail
            go_ret
            exact ⟨by rw [hc.out.2.2.1]; rfl, below_next (below_drewN hbe.out _) HB5.out⟩
          · have hs8 : ¬ (S a').size ≤ 8 := by rw [S_size]; exact h8
            clear h8
            by_cases hh : (bstr a').length ≤ (bstr b').length + 8
            · have hsh : (S a').size ≤ (S b').size + 8 := by rw [S_size, S_size]; exact hh
              clear hh
              go_wp2_with fail
              refine (halves_any a' b' _ hc.out.2.2.2.1 hc.out.2.2.2.2.1 hc.out.1 hc.out.2.1 (HX.out.2.2.2.next hbe.out)).mono ?_
              rintro e w5 ⟨rfl, hb5⟩
              have HB5 := Lib.hid hb5; clear hb5
              go_wp2_with fail
              go_ret
              exact ⟨by rw [hc.out.2.2.1]; rfl, below_next hbe.out HB5.out⟩
            · have hsh : ¬ (S a').size ≤ (S b').size + 8 := by rw [S_size, S_size]; exact hh
              clear hh
              go_wp2_with fail
              refine (div_S a' b' _ hc.out.2.2.2.2.1 hc.out.1 hc.out.2.1).mono ?_
              rintro e w5 ⟨rfl, hb5⟩
              have HB5 := Lib.hid hb5; clear hb5
              go_wp2_with fail
              have hml : a' % b' < b' := Nat.mod_lt _ (Nat.pos_of_ne_zero hc.out.2.2.2.2.1)
              have hba : b' ≤ a' := by
                refine Nat.le_of_not_lt fun h => ?_
                have := len_le_of_le (Nat.le_of_lt h)
                rw [S_size, S_size] at hsh; omega
              go_roundg (b' + a' % b')
              case measure => rw [HGK.out]; have := hc.out.2.2.2.2.2.1; omega
              case rel => exact ⟨b', a' % b', rfl, rfl, rfl, ⟨hc.out.2.1, Nat.le_trans (len_le_of_le (Nat.mod_le _ _)) hc.out.1, by rw [← hc.out.2.2.1, Nat.gcd_comm b', ← Nat.gcd_rec, Nat.gcd_comm]⟩, below_next hbe.out HB5.out⟩
end Go.Proofs.YtlfddhiimcophaaDoor
