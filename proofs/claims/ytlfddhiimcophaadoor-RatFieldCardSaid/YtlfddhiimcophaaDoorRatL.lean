/- ratBegun; what gantmake.Rat makes is small. -/
import Derived.Test.YtlfddhiimcophaaDoorRatK
namespace Go.Proofs.YtlfddhiimcophaaDoor
open Go.RowKit
set_option linter.unusedVariables false
set_option linter.unusedSimpArgs false

theorem half_eq : (((2 : Int) : Rat) / ((-4 : Int) : Rat)) = mkRat (-1) 2 := by decide +kernel
theorem half_num : (mkRat (-1) 2).num = -1 := by decide +kernel
theorem half_den : (mkRat (-1) 2).den = 2 := by decide +kernel
theorem half_parts : RIs (((2 : Int) : Rat) / ((-4 : Int) : Rat)) true (S 1) (S 2) := by
  rw [half_eq]
  exact ⟨by rw [half_num]; rfl, by rw [half_num]; rfl, by rw [half_den]⟩
theorem text_half (w : World) (hT : Tab w) :
    Calls Tryd.prog 44 #[.agg #[.bool true, .string (S 1), .string (S 2)]] w fun e w' => e = .returned (.string ⟨#[45, 49, 47, 50]⟩) ∧ Below w.heap.size w w' := by
  have hR : Rz 1 (((2 : Int) : Rat) / ((-4 : Int) : Rat)) := ⟨by rw [half_eq, half_num]; exact Sz.one, by rw [half_eq, half_den]; unfold Sz; decide⟩
  have HR := Lib.hid (And.intro hR hT); clear hR hT
  have t1 : T 1 = ⟨#[49]⟩ := by decide
  have t2 : T 2 = ⟨#[50]⟩ := by decide
  have l1 : (bstr 1).length ≤ 35184372088832 := by decide
  have l2 : (bstr 2).length ≤ 35184372088832 := by decide
  have HT1 := Lib.hid (And.intro (And.intro t1 l1) (And.intro t2 l2)); clear t1 t2 l1 l2
  have h1 : (S 2).toList = [2] := by rw [S_list]; decide
  have hb0 : Below w.heap.size w (w.alloc (.cells #[.bool true, .string (S 1), .string (S 2)] 35)) := (Below.refl _ _).alloc (Nat.le_refl _) _
  have HB0 := Lib.hid hb0; clear hb0
  go_enter Tryd.func44, Tryd.ntmps44
  go_wp2_with fail
  refine (fit_O 1 _ true (S 1) (S 2) _ half_parts HR.out.1 (by omega) (HR.out.2.next HB0.out)).mono ?_
  rintro e w1 ⟨rfl, hb1⟩
  have k0 : Blk w1 w.heap.size 35 #[.bool true, .string (S 1), .string (S 2)] := (Blk.new w _ _).belowB hb1
  obtain ⟨c0, c1, c2, g0, g1, g2⟩ := k0.three
  have HB1 := Lib.hid (And.intro (below_next HB0.out hb1) k0); clear hb1 k0
  go_wp2_with fail
  refine (Text_S 1 _ HT1.out.1.2).mono ?_
  rw [HT1.out.1.1]
  rintro e w2 ⟨rfl, hb2⟩
  have k2 := Blk.belowB (put3 HB1.out.2 (.bool true) (.string (S 1)) (.string (S 2))) hb2
  obtain ⟨c0', c1', c2', -, -, -⟩ := k2.three
  have HB2 := Lib.hid (below_next (put3_below (g := w.heap.size) HB1.out.1 (Nat.le_refl _) (.bool true) (.string (S 1)) (.string (S 2))) hb2); clear hb2 k2
  go_wp2_with fail
  refine (Text_S 2 _ HT1.out.2.2).mono ?_
  rw [HT1.out.2.1]
  rintro e w3 ⟨rfl, hb3⟩
  have HB3 := Lib.hid (below_next HB2.out hb3); clear hb3
  go_wp2_with fail
  go_ret
  exact ⟨by first | rfl | decide, HB3.out⟩
theorem make_O (m n : Int) {s a d} (w : World) (h : RIs ((m : Rat) / (n : Rat)) s a d) (h0 : -9223372036854775808 ≤ m) (h1 : m ≤ 9223372036854775807) (h2 : -9223372036854775808 ≤ n) (h3 : n ≤ 9223372036854775807) (hn : n ≠ 0) (hT : Tab w) :
    Calls Tryd.prog 37 #[.int .i64 m, .int .i64 n] w fun e w' => e = .returned (.tuple #[.agg #[.bool s, .string a, .string d], .int .i64 0]) ∧ Below w.heap.size w w' := by
  rw [← h.val]; exact make_R m n w h0 h1 h2 h3 hn hT
set_option maxHeartbeats 1000000 in
theorem ratBegun_any (w : World) (hT : Tab w) :
    Calls Tryd.prog 22 #[] w fun e w' => e = .returned (.bool true) ∧ Below w.heap.size w w' := by
  have HT := Lib.hid hT; clear hT
  go_enter Tryd.func22, Tryd.ntmps22
  go_wp2_with fail
  refine (make_O 2 (-4) _ half_parts (by omega) (by omega) (by omega) (by omega) (by omega) HT.out).mono ?_
  rintro e w1 ⟨rfl, hb1⟩
  have hb1' : Below w.heap.size w (w1.alloc (.cells #[.bool true, .string (S 1), .string (S 2)] 35)) := hb1.alloc hb1.size _
  have HB1 := Lib.hid hb1'; clear hb1 hb1'
  go_wp2_with fail
  refine (text_half _ (HT.out.next HB1.out)).mono ?_
  rintro e w2 ⟨rfl, hb2⟩
  have k2 : Blk w2 w1.heap.size 35 #[.bool true, .string (S 1), .string (S 2)] := (Blk.new w1 _ _).belowB hb2
  obtain ⟨c0, c1, c2, -, -, -⟩ := k2.three
  have HB2 := Lib.hid (below_next HB1.out hb2); clear hb2 k2
  go_wp2_with fail
  refine (good_yes true 1 2 1 _ (by decide) (by decide) (by decide) Sz.one (by unfold Sz; decide) (by omega) (HT.out.next HB2.out)).mono ?_
  rintro e w3 ⟨rfl, hb3⟩
  have HB3 := Lib.hid (below_next HB2.out hb3); clear hb3
  go_wp2_with fail
  go_ret
  exact ⟨rfl, HB3.out⟩
theorem SmallQ.rz {q : Rat} (h : SmallQ q) : Rz 1 q := by
  obtain ⟨z, d, rfl, hd, hd8, h1, h2⟩ := h
  obtain ⟨e1, e2⟩ := of_num z d hd
  have l1 : (mkRat z d).num.natAbs ≤ 64 := by
    rw [e1, Int.natAbs_tdiv]; exact Nat.le_trans (Nat.div_le_self _ _) (by omega)
  have l2 : (mkRat z d).den ≤ 8 := by rw [e2]; exact Nat.le_trans (Nat.div_le_self _ _) hd8
  exact ⟨bstr_length_le.2 (by omega), bstr_length_le.2 (by omega)⟩
end Go.Proofs.YtlfddhiimcophaaDoor
